import Derived.Test.YtngffembdhcijaaBagLaws
set_option maxHeartbeats 8000000
set_option linter.unusedSimpArgs false
set_option linter.unusedVariables false
set_option maxRecDepth 100000
namespace Go.Proofs.Ytngffembdhcijaa
open Go Go.Proofs.Ytngffembdhcijaa.AM
theorem bagPuts_ok (b : List Fd) (hhb : Held b) (hub : U8s b) (f : Fd) (huf : ∀ y ∈ f.data, 0 ≤ y ∧ y ≤ 255) (hlf : f.data.length ≤ 140737488351232) (G : AHeap) : PCalls Try.prog 9 [encBag b, encFd f] G (fun v => v = .bool true) := by
  refine LCalls.intro 166 fi9 rfl Try.ntmps9 rfl (fun _ h => h.elim) (fun H hH w0 hw0 => ?_)
  refine g_seq (fun K0 hK0 => ?_)
  refine g_region ?_
  refine g_step rfl (s_box rfl rfl rfl rfl ?_)
  refine g_step rfl (s_val (v_assign rfl) rfl rfl ?_)
  refine g_nil ?_
  refine g_next hK0 ?_
  refine g_seq (fun K1 hK1 => ?_)
  refine g_seq (fun K2 hK2 => ?_)
  refine g_region ?_
  refine g_step rfl (s_val (v_move rfl) rfl rfl ?_)
  refine g_step rfl (s_callp rfl rfl rfl (few_ok b _ _ rfl hhb) ?_)
  rintro _ rfl
  refine g_step rfl (s_val (v_not rfl) rfl rfl ?_)
  refine g_step rfl (s_val (v_move rfl) rfl rfl ?_)
  refine g_split 18 rfl (fun hg18 => ?_) (fun hg18 => ?_)
  · try simp only [decide_eq_true_eq, decide_eq_false_iff_not, Bool.not_eq_true', Bool.not_eq_false', Bool.not_eq_eq_eq_not, Bool.not_true, Bool.not_false, Bool.and_eq_true, Bool.or_eq_true, Bool.or_eq_false_iff, beq_iff_eq, beq_eq_false_iff_ne, ne_eq, Int.not_lt, Int.not_le, Decidable.not_not] at hg18
    refine g_step_no (j := 3) (t := 18) rfl rfl rfl rfl rfl rfl rfl ?_
    refine g_step_no (j := 3) (t := 18) rfl rfl rfl rfl rfl rfl rfl ?_
    refine g_step_no (j := 3) (t := 18) rfl rfl rfl rfl rfl rfl rfl ?_
    refine g_step_no (j := 3) (t := 18) rfl rfl rfl rfl rfl rfl rfl ?_
    refine g_step rfl (s_val (v_pick_t rfl rfl) rfl rfl ?_)
    refine g_nil ?_
    refine g_next hK2 ?_
    refine g_cond rfl (fun _ => ?_) (fun h => by cases h)
    refine g_seq (fun K3 hK3 => ?_)
    refine g_region ?_
    refine g_step rfl (s_callp rfl rfl rfl (awake06_ok _) ?_)
    rintro _ rfl
    refine g_step rfl (s_val (v_assign rfl) rfl rfl ?_)
    refine g_nil ?_
    refine g_next hK3 ?_
    refine g_ret ?_
    refine g_then_ret ?_
    refine g_end1 (.inl rfl) Try.results9 (.tmp rfl) [] (ASub.refl _) (by first | exact AHeap.sub_refl _ | exact AHeap.sub_trans ho9.sub (AHeap.sub_trans ho8.sub ho7.sub) | exact AHeap.sub_trans ho9.sub (AHeap.sub_trans ho8.sub h142.sub)) (fun p hp => by cases hp) ⟨rfl, ?_⟩
    rfl
  · try simp only [decide_eq_true_eq, decide_eq_false_iff_not, Bool.not_eq_true', Bool.not_eq_false', Bool.not_eq_eq_eq_not, Bool.not_true, Bool.not_false, Bool.and_eq_true, Bool.or_eq_true, Bool.or_eq_false_iff, beq_iff_eq, beq_eq_false_iff_ne, ne_eq, Int.not_lt, Int.not_le, Decidable.not_not] at hg18
    refine g_step_yes (j := 3) (t := 18) rfl rfl rfl rfl (s_fieldAddr ty51 fo51_1 ty49 rfl rfl ?_)
    refine g_step_yes (j := 3) (t := 18) rfl rfl rfl rfl (s_val (v_loadl ty49 rfl rfl rfl rfl) rfl rfl ?_)
    refine g_step_yes (j := 3) (t := 18) rfl rfl rfl rfl (s_val (v_len ty49 rfl (by first | rfl | assumption) (by first | exact List.length_map .. | rfl)) rfl rfl ?_)
    refine g_step_yes (j := 3) (t := 18) rfl rfl rfl rfl (s_val (v_gtr rfl rfl) rfl rfl ?_)
    refine g_step rfl (s_val (v_pick_f rfl rfl) rfl rfl ?_)
    refine g_nil ?_
    refine g_next hK2 ?_
    refine g_cond rfl (fun hc23 => ?_) (fun hc23 => ?_)
    · try simp only [decide_eq_true_eq, decide_eq_false_iff_not, Bool.not_eq_true', Bool.not_eq_false', Bool.not_eq_eq_eq_not, Bool.not_true, Bool.not_false, Bool.and_eq_true, Bool.or_eq_true, Bool.or_eq_false_iff, beq_iff_eq, beq_eq_false_iff_ne, ne_eq, Int.not_lt, Int.not_le, Decidable.not_not] at hc23
      refine g_seq (fun K4 hK4 => ?_)
      refine g_region ?_
      refine g_step rfl (s_callp rfl rfl rfl (awake06_ok _) ?_)
      rintro _ rfl
      refine g_step rfl (s_val (v_assign rfl) rfl rfl ?_)
      refine g_nil ?_
      refine g_next hK4 ?_
      refine g_ret ?_
      refine g_then_ret ?_
      refine g_end1 (.inl rfl) Try.results9 (.tmp rfl) [] (ASub.refl _) (by first | exact AHeap.sub_refl _ | exact AHeap.sub_trans ho9.sub (AHeap.sub_trans ho8.sub ho7.sub) | exact AHeap.sub_trans ho9.sub (AHeap.sub_trans ho8.sub h142.sub)) (fun p hp => by cases hp) ⟨rfl, ?_⟩
      rfl
    · try simp only [decide_eq_true_eq, decide_eq_false_iff_not, Bool.not_eq_true', Bool.not_eq_false', Bool.not_eq_eq_eq_not, Bool.not_true, Bool.not_false, Bool.and_eq_true, Bool.or_eq_true, Bool.or_eq_false_iff, beq_iff_eq, beq_eq_false_iff_ne, ne_eq, Int.not_lt, Int.not_le, Decidable.not_not] at hc23
      have hf : few b = true ∧ f.data.length ≤ 5000 := by refine ⟨by first | assumption | simp_all, by omega⟩
      have hsb := (few_small hf.1).1
      have hlb := hsb.1
      have hl40 := (few_small hf.1).2.1
      have hsf : Small [f] := ⟨by simp, by simp [bsize]; omega⟩
      refine g_skip ?_
      refine g_next hK1 ?_
      refine g_seq (fun K5 hK5 => ?_)
      refine g_region ?_
      refine g_step rfl (s_val (v_move rfl) rfl rfl ?_)
      refine g_step rfl (s_val (by first | exact v_loadl_all ty51 rfl rfl rfl rfl rfl | exact v_loadl_part (cs := [_, _]) ty51 rfl rfl rfl rfl rfl rfl) rfl rfl ?_)
      refine g_step rfl (s_callp rfl rfl rfl (bagPut_ok b _ _ rfl f hsb (by omega)) ?_)
      rintro _ rfl
      refine g_step rfl (s_val (v_move rfl) rfl rfl ?_)
      refine g_step rfl (s_val (v_extract rfl rfl) rfl rfl ?_)
      refine g_step rfl (s_val (v_extract rfl rfl) rfl rfl ?_)
      refine g_step rfl (s_val (v_assign rfl) rfl rfl ?_)
      refine g_step rfl (s_val (v_assign rfl) rfl rfl ?_)
      refine g_nil ?_
      refine g_next hK5 ?_
      refine g_seq (fun K6 hK6 => ?_)
      refine g_region ?_
      refine g_step rfl (s_val (v_assign rfl) rfl rfl ?_)
      refine g_nil ?_
      refine g_next hK6 ?_
      refine g_seq (fun K7 hK7 => ?_)
      refine g_region ?_
      refine g_step rfl (s_val (v_assign rfl) rfl rfl ?_)
      refine g_nil ?_
      refine g_next hK7 ?_
      refine g_seq (fun K8 hK8 => ?_)
      refine g_region ?_
      refine g_step rfl (s_val (v_assign rfl) rfl rfl ?_)
      refine g_nil ?_
      refine g_next hK8 ?_
      refine g_seq (fun K9 hK9 => ?_)
      refine g_region ?_
      refine g_step rfl (s_val (v_assign rfl) rfl rfl ?_)
      refine g_nil ?_
      refine g_next hK9 ?_
      refine g_seq (fun K10 hK10 => ?_)
      refine g_seq (fun K11 hK11 => ?_)
      refine g_region ?_
      refine g_step rfl (s_val (v_assign rfl) rfl rfl ?_)
      refine g_nil ?_
      refine g_next hK11 ?_
      refine g_block ?_
      refine g_keep [0, 5, 6, 7, 8, 9, 10, 11] [3] [3] rfl rfl rfl rfl ?_
      refine g_loop (fun n env L B G => ∃ (k : Nat) (u : Int) (X1 X2 : AHeap) (a7 a8 a9 : AV), k ≤ b.length ∧ n = b.length - k ∧ env = [(0, encBag b), (5, (encBag (bput b f).1)), (6, .int .i64 (bput b f).2), (7, a7), (8, a8), (9, a9), (10, .int .i64 u), (11, .int .i64 (k : Int))] ∧ L = [(3, 3, 0)] ∧ B = [(3, encFd f)] ∧ Own w0.heap.size 2 X1 a7 (((b.take k).filter (fun x => decide (x.tag ≤ f.tag))).map encFd) G ∧ Own w0.heap.size 2 X2 a8 (((b.take k).filter (fun x => !decide (x.tag ≤ f.tag))).map encFd) X1 ∧ Own w0.heap.size 2 H a9 (((b.take k).filter (fun x => !decide (x.tag = f.tag))).map encFd) X2 ∧ ((u = -1 ∧ (b.take k).all (fun x => !decide (x.tag = f.tag)) = true) ∨ ∃ (j : Nat) (y : Fd), u = (j : Int) ∧ b[j]? = some y ∧ y.tag = f.tag ∧ (b.take j).all (fun x => !decide (x.tag = f.tag)) = true)) (b.length) ⟨0, -1, H, H, .nil0, .nil0, .nil0, Nat.zero_le _, rfl, rfl, rfl, rfl, ⟨Own.nil .., Own.nil .., Own.nil .., .inl ⟨rfl, rfl⟩⟩⟩ (fun n env L B G hI => ?_)
      obtain ⟨k, u, X1, X2, a7, a8, a9, hk, rfl, rfl, rfl, rfl, ho7, ho8, ho9, hu⟩ := hI
      refine g_seq (fun K12 hK12 => ?_)
      refine g_seq (fun K13 hK13 => ?_)
      refine g_region ?_
      refine g_step rfl (s_val (v_move rfl) rfl rfl ?_)
      refine g_step rfl (s_val (v_move rfl) rfl rfl ?_)
      refine g_step rfl (s_val (v_len ty30 rfl (by first | rfl | assumption) (by first | exact List.length_map .. | rfl)) rfl rfl ?_)
      refine g_step rfl (s_val (v_lss rfl rfl) rfl rfl ?_)
      refine g_nil ?_
      refine g_next hK13 ?_
      refine g_cond rfl (fun hc34 => ?_) (fun hc34 => ?_)
      · try simp only [decide_eq_true_eq, decide_eq_false_iff_not, Bool.not_eq_true', Bool.not_eq_false', Bool.not_eq_eq_eq_not, Bool.not_true, Bool.not_false, Bool.and_eq_true, Bool.or_eq_true, Bool.or_eq_false_iff, beq_iff_eq, beq_eq_false_iff_ne, ne_eq, Int.not_lt, Int.not_le, Decidable.not_not] at hc34
        obtain ⟨x, hx⟩ := get_some (l := b) (k := k) (by omega)
        have hkl : k < b.length := by omega
        have htl : (b.take k).length ≤ k := List.length_take_le _ _
        have hf1 := List.length_filter_le (fun x => decide (x.tag ≤ f.tag)) (b.take k)
        have hf2 := List.length_filter_le (fun x => !decide (x.tag ≤ f.tag)) (b.take k)
        have hf3 := List.length_filter_le (fun x => !decide (x.tag = f.tag)) (b.take k)
        refine g_skip ?_
        refine g_next hK12 ?_
        refine g_seq (fun K14 hK14 => ?_)
        refine g_block ?_
        refine g_cut (fun env L B G => ∃ (Y1 Y2 : AHeap) (c7 c8 : AV), env = [(0, encBag b), (5, (encBag (bput b f).1)), (6, .int .i64 (bput b f).2), (7, c7), (8, c8), (9, a9), (10, .int .i64 u), (11, .int .i64 (k : Int))] ∧ L = [(3, 3, 0)] ∧ B = [(3, encFd f)] ∧ Own w0.heap.size 2 Y1 c7 (((b.take (k + 1)).filter (fun x => decide (x.tag ≤ f.tag))).map encFd) G ∧ Own w0.heap.size 2 Y2 c8 (((b.take (k + 1)).filter (fun x => !decide (x.tag ≤ f.tag))).map encFd) Y1 ∧ Own w0.heap.size 2 H a9 (((b.take k).filter (fun x => !decide (x.tag = f.tag))).map encFd) Y2) ?_ (fun env L B G hI => ?_)
        · skip
          refine g_seq (fun K15 hK15 => ?_)
          refine g_draw (n := 8) (fun j => !([] : List Nat).contains j) rfl rfl ?_
          refine m_take 0 false rfl rfl (by kernel_rfl) (by kernel_rfl) (by kernel_rfl) (fun _ _ _ _ h => h) (v_move rfl) rfl rfl ?_
          refine m_take 1 false rfl rfl (by kernel_rfl) (by kernel_rfl) (by kernel_rfl) (fun _ _ _ _ h => h) (v_move rfl) rfl rfl ?_
          refine m_take 2 false rfl rfl (by kernel_rfl) (by kernel_rfl) (by kernel_rfl) (fun _ _ _ _ h => h) (v_indexAddr ty30 ty51 rfl rfl (by first | rfl | assumption) (by first | rfl | exact (rfl : (0 : Int) = ((0 : Nat) : Int)) | exact (Int.toNat_of_nonneg (by omega)).symm) (by first | assumption | exact map_get (by assumption) | rfl) rfl) rfl rfl ?_
          refine m_take 3 false rfl rfl (by kernel_rfl) (by kernel_rfl) (by kernel_rfl) (fun _ _ _ _ h => h) (by first | exact v_fieldAddr ty51 fo51_0 ty3 rfl | exact v_fieldAddr_box ty51 fo51_0 ty3 rfl) rfl rfl ?_
          refine m_take 4 true rfl rfl (by kernel_rfl) (by kernel_rfl) (by kernel_rfl) (fun _ _ _ _ h => h) (by first | exact v_load ty3 rfl rfl (by first | rfl | assumption) (by first | assumption | exact map_get (by assumption) | rfl) rfl | exact v_load_box ty3 rfl rfl (by assumption) rfl) rfl rfl ?_
          refine m_takel 5 rfl rfl (by kernel_rfl) (by kernel_rfl) (by kernel_rfl) (fun _ _ _ _ h => h) (vl_fieldAddr ty51 fo51_0 ty3 rfl) rfl rfl ?_
          refine m_take 6 true rfl rfl (by kernel_rfl) (by kernel_rfl) (by kernel_rfl) (fun _ _ _ _ h => h) (v_loadl ty3 rfl rfl rfl rfl) rfl rfl ?_
          refine m_take 7 false rfl rfl (by kernel_rfl) (by kernel_rfl) (by kernel_rfl) (fun _ _ _ _ h => h) (v_leq rfl rfl) rfl rfl ?_
          refine m_done (by kernel_rfl) ?_
          refine g_next hK15 ?_
          refine g_cond rfl (fun hc44 => ?_) (fun hc44 => ?_)
          · try simp only [decide_eq_true_eq, decide_eq_false_iff_not, Bool.not_eq_true', Bool.not_eq_false', Bool.not_eq_eq_eq_not, Bool.not_true, Bool.not_false, Bool.and_eq_true, Bool.or_eq_true, Bool.or_eq_false_iff, beq_iff_eq, beq_eq_false_iff_ne, ne_eq, Int.not_lt, Int.not_le, Decidable.not_not] at hc44
            refine g_region ?_
            refine g_step rfl (s_val (v_move rfl) rfl rfl ?_)
            refine g_step rfl (s_val (v_move rfl) rfl rfl ?_)
            refine g_step rfl (s_val (v_move rfl) rfl rfl ?_)
            refine g_step rfl (s_val (v_indexAddr ty30 ty51 rfl rfl rfl (by first | rfl | exact (rfl : (0 : Int) = ((0 : Nat) : Int)) | exact (Int.toNat_of_nonneg (by omega)).symm) (by first | assumption | exact map_get (by assumption) | rfl) rfl) rfl rfl ?_)
            refine g_step rfl (s_val (by first | exact v_load_elt ty51 rfl rfl (by first | rfl | assumption) (by first | assumption | exact map_get (by assumption) | rfl) rfl rfl | exact v_load_box_all ty51 rfl rfl (by assumption) rfl rfl | exact v_load_part (cs := [_, _]) ty51 rfl rfl (by first | rfl | assumption) (by first | assumption | exact map_get (by assumption) | rfl) rfl rfl rfl | exact v_load_box_part (cs := [_, _]) ty51 rfl rfl (by assumption) rfl rfl rfl) rfl rfl ?_)
            refine g_step rfl (s_lit ty30 ty51 rfl rfl rfl rfl rfl rfl rfl ?_)
            refine g_step rfl (s_append (l := (((b.take k).filter (fun x => decide (x.tag ≤ f.tag))).map encFd)) (m := ([x].map encFd)) ty30 ty51 rfl rfl ho7 rfl rfl (by refine Even.map _ ?_ _; intro _; rfl) (by intro x hx; obtain ⟨_, _, rfl⟩ := List.mem_map.1 hx; rfl) rfl (by simp; omega) (by simp; omega) ?_)
            intro av51 G51 h51
            refine g_step rfl (s_val (v_assign rfl) rfl rfl ?_)
            refine g_nil ?_
            refine g_keep [0, 5, 6, 7, 8, 9, 10, 11] [3] [3] rfl rfl rfl rfl ?_
            first | exact g_has ⟨X1, X2, av51, a8, rfl, rfl, rfl, ⟨by rw [filter_snoc hx, if_pos (by simpa using hc44), List.map_append]; exact h51, by rw [filter_snoc hx, if_neg (by simpa using hc44), List.append_nil]; exact ho8, ho9⟩⟩ | exact g_has ⟨Y, X2, a7, av58, rfl, rfl, rfl, ⟨by rw [filter_snoc hx, if_neg (by simpa using hc44), List.append_nil]; exact y7, by rw [filter_snoc hx, if_pos (by simpa using hc44), List.map_append]; exact y8, ho9⟩⟩
          · try simp only [decide_eq_true_eq, decide_eq_false_iff_not, Bool.not_eq_true', Bool.not_eq_false', Bool.not_eq_eq_eq_not, Bool.not_true, Bool.not_false, Bool.and_eq_true, Bool.or_eq_true, Bool.or_eq_false_iff, beq_iff_eq, beq_eq_false_iff_ne, ne_eq, Int.not_lt, Int.not_le, Decidable.not_not] at hc44
            refine g_region ?_
            obtain ⟨Z, z8, z7⟩ := own_swap ho7 ho8
            refine g_step rfl (s_val (v_move rfl) rfl rfl ?_)
            refine g_step rfl (s_val (v_move rfl) rfl rfl ?_)
            refine g_step rfl (s_val (v_move rfl) rfl rfl ?_)
            refine g_step rfl (s_val (v_indexAddr ty30 ty51 rfl rfl (by first | rfl | assumption) (by first | rfl | exact (rfl : (0 : Int) = ((0 : Nat) : Int)) | exact (Int.toNat_of_nonneg (by omega)).symm) (by first | assumption | exact map_get (by assumption) | rfl) rfl) rfl rfl ?_)
            refine g_step rfl (s_val (by first | exact v_load_elt ty51 rfl rfl (by first | rfl | assumption) (by first | assumption | exact map_get (by assumption) | rfl) rfl rfl | exact v_load_box_all ty51 rfl rfl (by assumption) rfl rfl | exact v_load_part (cs := [_, _]) ty51 rfl rfl (by first | rfl | assumption) (by first | assumption | exact map_get (by assumption) | rfl) rfl rfl rfl | exact v_load_box_part (cs := [_, _]) ty51 rfl rfl (by assumption) rfl rfl rfl) rfl rfl ?_)
            refine g_step rfl (s_lit ty30 ty51 rfl rfl rfl rfl rfl rfl rfl ?_)
            refine g_step rfl (s_append (l := (((b.take k).filter (fun x => !decide (x.tag ≤ f.tag))).map encFd)) (m := ([x].map encFd)) ty30 ty51 rfl rfl z8 rfl rfl (by refine Even.map _ ?_ _; intro _; rfl) (by intro x hx; obtain ⟨_, _, rfl⟩ := List.mem_map.1 hx; rfl) rfl (by simp; omega) (by simp; omega) ?_)
            intro av58 G58 h58
            obtain ⟨Y, y7, y8⟩ := own_swap h58 z7
            refine g_step rfl (s_val (v_assign rfl) rfl rfl ?_)
            refine g_nil ?_
            refine g_keep [0, 5, 6, 7, 8, 9, 10, 11] [3] [3] rfl rfl rfl rfl ?_
            first | exact g_has ⟨X1, X2, av51, a8, rfl, rfl, rfl, ⟨by rw [filter_snoc hx, if_pos (by simpa using hc44), List.map_append]; exact h51, by rw [filter_snoc hx, if_neg (by simpa using hc44), List.append_nil]; exact ho8, ho9⟩⟩ | exact g_has ⟨Y, X2, a7, av58, rfl, rfl, rfl, ⟨by rw [filter_snoc hx, if_neg (by simpa using hc44), List.append_nil]; exact y7, by rw [filter_snoc hx, if_pos (by simpa using hc44), List.map_append]; exact y8, ho9⟩⟩
        · skip
          obtain ⟨Y1, Y2, c7, c8, rfl, rfl, rfl, p7, p8, p9⟩ := hI
          refine g_seq (fun K16 hK16 => ?_)
          refine g_draw (n := 8) (fun j => !([] : List Nat).contains j) rfl rfl ?_
          refine m_take 0 false rfl rfl (by kernel_rfl) (by kernel_rfl) (by kernel_rfl) (fun _ _ _ _ h => h) (v_move rfl) rfl rfl ?_
          refine m_take 1 false rfl rfl (by kernel_rfl) (by kernel_rfl) (by kernel_rfl) (fun _ _ _ _ h => h) (v_move rfl) rfl rfl ?_
          refine m_take 2 false rfl rfl (by kernel_rfl) (by kernel_rfl) (by kernel_rfl) (fun _ _ _ _ h => h) (v_indexAddr ty30 ty51 rfl rfl (by first | rfl | assumption) (by first | rfl | exact (rfl : (0 : Int) = ((0 : Nat) : Int)) | exact (Int.toNat_of_nonneg (by omega)).symm) (by first | assumption | exact map_get (by assumption) | rfl) rfl) rfl rfl ?_
          refine m_take 3 false rfl rfl (by kernel_rfl) (by kernel_rfl) (by kernel_rfl) (fun _ _ _ _ h => h) (by first | exact v_fieldAddr ty51 fo51_0 ty3 rfl | exact v_fieldAddr_box ty51 fo51_0 ty3 rfl) rfl rfl ?_
          refine m_take 4 true rfl rfl (by kernel_rfl) (by kernel_rfl) (by kernel_rfl) (fun _ _ _ _ h => h) (by first | exact v_load ty3 rfl rfl (by first | rfl | assumption) (by first | assumption | exact map_get (by assumption) | rfl) rfl | exact v_load_box ty3 rfl rfl (by assumption) rfl) rfl rfl ?_
          refine m_takel 5 rfl rfl (by kernel_rfl) (by kernel_rfl) (by kernel_rfl) (fun _ _ _ _ h => h) (vl_fieldAddr ty51 fo51_0 ty3 rfl) rfl rfl ?_
          refine m_take 6 true rfl rfl (by kernel_rfl) (by kernel_rfl) (by kernel_rfl) (fun _ _ _ _ h => h) (v_loadl ty3 rfl rfl rfl rfl) rfl rfl ?_
          refine m_take 7 false rfl rfl (by kernel_rfl) (by kernel_rfl) (by kernel_rfl) (fun _ _ _ _ h => h) (v_neq rfl rfl) rfl rfl ?_
          refine m_done (by kernel_rfl) ?_
          refine g_next hK16 ?_
          refine g_cond rfl (fun hc66 => ?_) (fun hc66 => ?_)
          · try simp only [decide_eq_true_eq, decide_eq_false_iff_not, Bool.not_eq_true', Bool.not_eq_false', Bool.not_eq_eq_eq_not, Bool.not_true, Bool.not_false, Bool.and_eq_true, Bool.or_eq_true, Bool.or_eq_false_iff, beq_iff_eq, beq_eq_false_iff_ne, ne_eq, Int.not_lt, Int.not_le, Decidable.not_not] at hc66
            refine g_region ?_
            obtain ⟨Z, z9, z8⟩ := own_swap p8 p9
            obtain ⟨W', w9, w7⟩ := own_swap p7 z9
            refine g_step rfl (s_val (v_move rfl) rfl rfl ?_)
            refine g_step rfl (s_val (v_move rfl) rfl rfl ?_)
            refine g_step rfl (s_val (v_move rfl) rfl rfl ?_)
            refine g_step rfl (s_val (v_indexAddr ty30 ty51 rfl rfl (by first | rfl | assumption) (by first | rfl | exact (rfl : (0 : Int) = ((0 : Nat) : Int)) | exact (Int.toNat_of_nonneg (by omega)).symm) (by first | assumption | exact map_get (by assumption) | rfl) rfl) rfl rfl ?_)
            refine g_step rfl (s_val (by first | exact v_load_elt ty51 rfl rfl (by first | rfl | assumption) (by first | assumption | exact map_get (by assumption) | rfl) rfl rfl | exact v_load_box_all ty51 rfl rfl (by assumption) rfl rfl | exact v_load_part (cs := [_, _]) ty51 rfl rfl (by first | rfl | assumption) (by first | assumption | exact map_get (by assumption) | rfl) rfl rfl rfl | exact v_load_box_part (cs := [_, _]) ty51 rfl rfl (by assumption) rfl rfl rfl) rfl rfl ?_)
            refine g_step rfl (s_lit ty30 ty51 rfl rfl rfl rfl rfl rfl rfl ?_)
            refine g_step rfl (s_append (l := (((b.take k).filter (fun x => !decide (x.tag = f.tag))).map encFd)) (m := ([x].map encFd)) ty30 ty51 rfl rfl w9 rfl rfl (by refine Even.map _ ?_ _; intro _; rfl) (by intro x hx; obtain ⟨_, _, rfl⟩ := List.mem_map.1 hx; rfl) rfl (by simp; omega) (by simp; omega) ?_)
            intro av73 G73 h73
            obtain ⟨V, v7, v9'⟩ := own_swap h73 w7
            obtain ⟨U, v8, v9⟩ := own_swap v9' z8
            refine g_step rfl (s_val (v_assign rfl) rfl rfl ?_)
            refine g_nil ?_
            refine g_block_normal ?_
            refine g_next hK14 ?_
            refine g_region ?_
            refine g_step rfl (s_val (v_move rfl) rfl rfl ?_)
            refine g_step rfl (s_val (v_add rfl rfl (by omega)) rfl rfl ?_)
            refine g_step rfl (s_val (v_assign rfl) rfl rfl ?_)
            refine g_nil ?_
            refine g_keep [0, 5, 6, 7, 8, 9, 10, 11] [3] [3] rfl rfl rfl rfl ?_
            first | exact g_round _ (by omega) ⟨k + 1, u, V, U, c7, c8, av73, by omega, rfl, rfl, rfl, rfl, ⟨v7, v8, by rw [filter_snoc hx, if_pos (by simpa using hc66), List.map_append]; exact v9, hu.imp (fun h => ⟨h.1, by rw [all_snoc hx, h.2]; simpa using hc66⟩) id⟩⟩ | exact g_round _ (by omega) ⟨k + 1, (k : Int), Y1, Y2, c7, c8, a9, by omega, rfl, rfl, rfl, rfl, ⟨p7, p8, by rw [filter_snoc hx, if_neg (by simpa using hc66), List.append_nil]; exact p9, .inr ⟨k, x, rfl, hx, by omega, (hu.resolve_right (by rintro ⟨j, _, rfl, _⟩; omega)).2⟩⟩⟩ | exact g_round _ (by omega) ⟨k + 1, u, Y1, Y2, c7, c8, a9, by omega, rfl, rfl, rfl, rfl, ⟨p7, p8, by rw [filter_snoc hx, if_neg (by simpa using hc66), List.append_nil]; exact p9, hu.elim (fun h => by omega) .inr⟩⟩
          · try simp only [decide_eq_true_eq, decide_eq_false_iff_not, Bool.not_eq_true', Bool.not_eq_false', Bool.not_eq_eq_eq_not, Bool.not_true, Bool.not_false, Bool.and_eq_true, Bool.or_eq_true, Bool.or_eq_false_iff, beq_iff_eq, beq_eq_false_iff_ne, ne_eq, Int.not_lt, Int.not_le, Decidable.not_not] at hc66
            refine g_seq (fun K17 hK17 => ?_)
            refine g_region ?_
            refine g_step rfl (s_val (v_move rfl) rfl rfl ?_)
            refine g_step rfl (s_val (v_lss rfl rfl) rfl rfl ?_)
            refine g_nil ?_
            refine g_next hK17 ?_
            refine g_cond rfl (fun hc75 => ?_) (fun hc75 => ?_)
            · try simp only [decide_eq_true_eq, decide_eq_false_iff_not, Bool.not_eq_true', Bool.not_eq_false', Bool.not_eq_eq_eq_not, Bool.not_true, Bool.not_false, Bool.and_eq_true, Bool.or_eq_true, Bool.or_eq_false_iff, beq_iff_eq, beq_eq_false_iff_ne, ne_eq, Int.not_lt, Int.not_le, Decidable.not_not] at hc75
              refine g_region ?_
              refine g_step rfl (s_val (v_move rfl) rfl rfl ?_)
              refine g_step rfl (s_val (v_assign rfl) rfl rfl ?_)
              refine g_nil ?_
              refine g_block_normal ?_
              refine g_next hK14 ?_
              refine g_region ?_
              refine g_step rfl (s_val (v_move rfl) rfl rfl ?_)
              refine g_step rfl (s_val (v_add rfl rfl (by omega)) rfl rfl ?_)
              refine g_step rfl (s_val (v_assign rfl) rfl rfl ?_)
              refine g_nil ?_
              refine g_keep [0, 5, 6, 7, 8, 9, 10, 11] [3] [3] rfl rfl rfl rfl ?_
              first | exact g_round _ (by omega) ⟨k + 1, u, V, U, c7, c8, av73, by omega, rfl, rfl, rfl, rfl, ⟨v7, v8, by rw [filter_snoc hx, if_pos (by simpa using hc66), List.map_append]; exact v9, hu.imp (fun h => ⟨h.1, by rw [all_snoc hx, h.2]; simpa using hc66⟩) id⟩⟩ | exact g_round _ (by omega) ⟨k + 1, (k : Int), Y1, Y2, c7, c8, a9, by omega, rfl, rfl, rfl, rfl, ⟨p7, p8, by rw [filter_snoc hx, if_neg (by simpa using hc66), List.append_nil]; exact p9, .inr ⟨k, x, rfl, hx, by omega, (hu.resolve_right (by rintro ⟨j, _, rfl, _⟩; omega)).2⟩⟩⟩ | exact g_round _ (by omega) ⟨k + 1, u, Y1, Y2, c7, c8, a9, by omega, rfl, rfl, rfl, rfl, ⟨p7, p8, by rw [filter_snoc hx, if_neg (by simpa using hc66), List.append_nil]; exact p9, hu.elim (fun h => by omega) .inr⟩⟩
            · try simp only [decide_eq_true_eq, decide_eq_false_iff_not, Bool.not_eq_true', Bool.not_eq_false', Bool.not_eq_eq_eq_not, Bool.not_true, Bool.not_false, Bool.and_eq_true, Bool.or_eq_true, Bool.or_eq_false_iff, beq_iff_eq, beq_eq_false_iff_ne, ne_eq, Int.not_lt, Int.not_le, Decidable.not_not] at hc75
              refine g_skip ?_
              refine g_block_normal ?_
              refine g_next hK14 ?_
              refine g_region ?_
              refine g_step rfl (s_val (v_move rfl) rfl rfl ?_)
              refine g_step rfl (s_val (v_add rfl rfl (by omega)) rfl rfl ?_)
              refine g_step rfl (s_val (v_assign rfl) rfl rfl ?_)
              refine g_nil ?_
              refine g_keep [0, 5, 6, 7, 8, 9, 10, 11] [3] [3] rfl rfl rfl rfl ?_
              first | exact g_round _ (by omega) ⟨k + 1, u, V, U, c7, c8, av73, by omega, rfl, rfl, rfl, rfl, ⟨v7, v8, by rw [filter_snoc hx, if_pos (by simpa using hc66), List.map_append]; exact v9, hu.imp (fun h => ⟨h.1, by rw [all_snoc hx, h.2]; simpa using hc66⟩) id⟩⟩ | exact g_round _ (by omega) ⟨k + 1, (k : Int), Y1, Y2, c7, c8, a9, by omega, rfl, rfl, rfl, rfl, ⟨p7, p8, by rw [filter_snoc hx, if_neg (by simpa using hc66), List.append_nil]; exact p9, .inr ⟨k, x, rfl, hx, by omega, (hu.resolve_right (by rintro ⟨j, _, rfl, _⟩; omega)).2⟩⟩⟩ | exact g_round _ (by omega) ⟨k + 1, u, Y1, Y2, c7, c8, a9, by omega, rfl, rfl, rfl, rfl, ⟨p7, p8, by rw [filter_snoc hx, if_neg (by simpa using hc66), List.append_nil]; exact p9, hu.elim (fun h => by omega) .inr⟩⟩
      · try simp only [decide_eq_true_eq, decide_eq_false_iff_not, Bool.not_eq_true', Bool.not_eq_false', Bool.not_eq_eq_eq_not, Bool.not_true, Bool.not_false, Bool.and_eq_true, Bool.or_eq_true, Bool.or_eq_false_iff, beq_iff_eq, beq_eq_false_iff_ne, ne_eq, Int.not_lt, Int.not_le, Decidable.not_not] at hc34
        obtain rfl : k = b.length := by omega
        rw [List.take_length] at ho7 ho8 ho9 hu
        have hv9 := view_sub ho7.sub (view_sub ho8.sub ho9.view)
        refine g_exit ?_
        refine g_then_exit ?_
        refine g_then_exit ?_
        refine g_block_same ?_
        refine g_next hK10 ?_
        refine g_seq (fun K18 hK18 => ?_)
        refine g_seq (fun K19 hK19 => ?_)
        refine g_region ?_
        refine g_step rfl (s_val (v_move rfl) rfl rfl ?_)
        refine g_step rfl (s_fieldAddr ty51 fo51_0 ty3 rfl rfl ?_)
        refine g_step rfl (s_val (v_loadl ty3 rfl rfl rfl rfl) rfl rfl ?_)
        refine g_step rfl (s_callp rfl rfl rfl (bagDrop_ok b _ _ rfl f.tag hsb) ?_)
        rintro _ rfl
        refine g_step rfl (s_val (v_move rfl) rfl rfl ?_)
        refine g_step rfl (s_callp rfl rfl rfl (alike06_ok (bdrop b f.tag) (bdrop b f.tag) _ _ a9 rfl hv9 (by have := List.length_filter_le (fun x => !decide (x.tag = f.tag)) b; unfold bdrop; omega) (U8s_sub hub (fun x hx => (List.mem_filter.1 hx).1)) (U8s_sub hub (fun x hx => (List.mem_filter.1 hx).1))) ?_)
        rintro _ rfl
        refine g_step rfl (s_val (v_not rfl) rfl rfl ?_)
        refine g_nil ?_
        refine g_next hK19 ?_
        refine g_cond rfl (fun hc83 => ?_) (fun hc83 => ?_)
        · exfalso; (try simp only [decide_eq_true_eq, decide_eq_false_iff_not, Bool.not_eq_true', Bool.not_eq_false', Bool.not_eq_eq_eq_not, Bool.not_true, Bool.not_false, Bool.and_eq_true, Bool.or_eq_true, Bool.or_eq_false_iff, beq_iff_eq, beq_eq_false_iff_ne, ne_eq, Int.not_lt, Int.not_le, Decidable.not_not] at hc83); simp at hc83
        · try simp only [decide_eq_true_eq, decide_eq_false_iff_not, Bool.not_eq_true', Bool.not_eq_false', Bool.not_eq_eq_eq_not, Bool.not_true, Bool.not_false, Bool.and_eq_true, Bool.or_eq_true, Bool.or_eq_false_iff, beq_iff_eq, beq_eq_false_iff_ne, ne_eq, Int.not_lt, Int.not_le, Decidable.not_not] at hc83
          refine g_skip ?_
          refine g_next hK18 ?_
          refine g_seq (fun K20 hK20 => ?_)
          refine g_region ?_
          refine g_step rfl (s_val (v_move rfl) rfl rfl ?_)
          refine g_step rfl (s_fieldAddr ty51 fo51_0 ty3 rfl rfl ?_)
          refine g_step rfl (s_val (v_loadl ty3 rfl rfl rfl rfl) rfl rfl ?_)
          refine g_step rfl (s_callp rfl rfl rfl (bagGet_ok b _ _ rfl f.tag hsb) ?_)
          rintro _ rfl
          refine g_step rfl (s_val (v_move rfl) rfl rfl ?_)
          refine g_step rfl (s_val (v_extract rfl rfl) rfl rfl ?_)
          refine g_step rfl (s_val (v_extract rfl rfl) rfl rfl ?_)
          refine g_step rfl (s_val (v_assign rfl) rfl rfl ?_)
          refine g_step rfl (s_val (v_assign rfl) rfl rfl ?_)
          refine g_nil ?_
          refine g_next hK20 ?_
          refine g_keep [0, 5, 6, 7, 8, 10, 12, 13] [3] [3] rfl rfl rfl rfl ?_
          refine g_seq (fun K21 hK21 => ?_)
          refine g_seq (fun K22 hK22 => ?_)
          refine g_draw (n := 27) (fun j => !([] : List Nat).contains j) rfl rfl ?_
          obtain ⟨hg2, hg1, hj⟩ := bget_hu hu
          refine m_take 0 false rfl rfl (by kernel_rfl) (by kernel_rfl) (by kernel_rfl) (fun _ _ _ _ h => h) (v_move rfl) rfl rfl ?_
          refine m_take 1 false rfl rfl (by kernel_rfl) (by kernel_rfl) (by kernel_rfl) (fun _ _ _ _ h => h) (v_move rfl) rfl rfl ?_
          refine m_take 2 false rfl rfl (by kernel_rfl) (by kernel_rfl) (by kernel_rfl) (fun _ _ _ _ h => h) (v_geq rfl rfl) rfl rfl ?_
          refine m_take 3 false rfl rfl (by kernel_rfl) (by kernel_rfl) (by kernel_rfl) (fun _ _ _ _ h => h) (v_bool_neq ty4 rfl rfl) rfl rfl ?_
          refine m_take 4 false rfl rfl (by kernel_rfl) (by kernel_rfl) (by kernel_rfl) (fun _ _ _ _ h => h) (v_move rfl) rfl rfl ?_
          refine m_split 95 rfl (fun hg95 => ?_) (fun hg95 => ?_)
          · exfalso; (try simp only [decide_eq_true_eq, decide_eq_false_iff_not, Bool.not_eq_true', Bool.not_eq_false', Bool.not_eq_eq_eq_not, Bool.not_true, Bool.not_false, Bool.and_eq_true, Bool.or_eq_true, Bool.or_eq_false_iff, beq_iff_eq, beq_eq_false_iff_ne, ne_eq, Int.not_lt, Int.not_le, Decidable.not_not] at hg95); simp [hg2] at hg95
          · try simp only [decide_eq_true_eq, decide_eq_false_iff_not, Bool.not_eq_true', Bool.not_eq_false', Bool.not_eq_eq_eq_not, Bool.not_true, Bool.not_false, Bool.and_eq_true, Bool.or_eq_true, Bool.or_eq_false_iff, beq_iff_eq, beq_eq_false_iff_ne, ne_eq, Int.not_lt, Int.not_le, Decidable.not_not] at hg95
            refine m_take_yes (j := 4) (t := 95) 5 false rfl rfl rfl rfl rfl (by kernel_rfl) (by kernel_rfl) (by kernel_rfl) (fun _ _ _ _ h => h) (v_move rfl) rfl rfl ?_
            refine m_take_yes (j := 4) (t := 95) 6 false rfl rfl rfl rfl rfl (by kernel_rfl) (by kernel_rfl) (by kernel_rfl) (fun _ _ _ _ h => h) (v_move rfl) rfl rfl ?_
            refine m_split 97 rfl (fun hg97 => ?_) (fun hg97 => ?_)
            · try simp only [decide_eq_true_eq, decide_eq_false_iff_not, Bool.not_eq_true', Bool.not_eq_false', Bool.not_eq_eq_eq_not, Bool.not_true, Bool.not_false, Bool.and_eq_true, Bool.or_eq_true, Bool.or_eq_false_iff, beq_iff_eq, beq_eq_false_iff_ne, ne_eq, Int.not_lt, Int.not_le, Decidable.not_not] at hg97
              obtain ⟨j, y, hj1, hj2, hj3⟩ := hj (by rw [hg2, decide_eq_true_eq] at hg97; exact hg97)
              refine m_take_yes (j := 6) (t := 97) 7 false rfl rfl rfl rfl rfl (by kernel_rfl) (by kernel_rfl) (by kernel_rfl) (fun _ _ _ _ h => h) (v_move rfl) rfl rfl ?_
              refine m_take_yes (j := 6) (t := 97) 8 true rfl rfl rfl rfl rfl (by kernel_rfl) (by kernel_rfl) (by kernel_rfl) (fun _ _ _ _ h => h) (v_bytes_str (l := _) ty49 ty5 ty9 rfl (by first | rfl | assumption)) rfl rfl ?_
              refine m_take_yes (j := 6) (t := 97) 9 false rfl rfl rfl rfl rfl (by kernel_rfl) (by kernel_rfl) (by kernel_rfl) (fun _ _ _ _ h => h) (v_move rfl) rfl rfl ?_
              refine m_take_yes (j := 6) (t := 97) 10 false rfl rfl rfl rfl rfl (by kernel_rfl) (by kernel_rfl) (by kernel_rfl) (fun _ _ _ _ h => h) (v_move rfl) rfl rfl ?_
              refine m_take_yes (j := 6) (t := 97) 11 false rfl rfl rfl rfl rfl (by kernel_rfl) (by kernel_rfl) (by kernel_rfl) (fun _ _ _ _ h => h) (v_indexAddr ty30 ty51 rfl rfl (by first | rfl | assumption) hj1 (map_get hj2) rfl) rfl rfl ?_
              refine m_take_yes (j := 6) (t := 97) 12 false rfl rfl rfl rfl rfl (by kernel_rfl) (by kernel_rfl) (by kernel_rfl) (fun _ _ _ _ h => h) (by first | exact v_fieldAddr ty51 fo51_1 ty49 rfl | exact v_fieldAddr_box ty51 fo51_1 ty49 rfl) rfl rfl ?_
              refine m_take_yes (j := 6) (t := 97) 13 true rfl rfl rfl rfl rfl (by kernel_rfl) (by kernel_rfl) (by kernel_rfl) (fun _ _ _ _ h => h) (by first | exact v_load ty49 rfl rfl (by first | rfl | assumption) (by first | assumption | exact map_get (by assumption) | rfl) rfl | exact v_load_box ty49 rfl rfl (by assumption) rfl) rfl rfl ?_
              refine m_take_yes (j := 6) (t := 97) 14 true rfl rfl rfl rfl rfl (by kernel_rfl) (by kernel_rfl) (by kernel_rfl) (fun _ _ _ _ h => h) (v_bytes_str (l := _) ty49 ty5 ty9 rfl (by first | rfl | assumption)) rfl rfl ?_
              refine m_take_yes (j := 6) (t := 97) 15 false rfl rfl rfl rfl rfl (by kernel_rfl) (by kernel_rfl) (by kernel_rfl) (fun _ _ _ _ h => h) (v_sne rfl rfl) rfl rfl ?_
              refine m_take_yes (j := 4) (t := 95) 16 false rfl rfl rfl rfl rfl (by kernel_rfl) (by kernel_rfl) (by kernel_rfl) (fun _ _ _ _ h => h) (v_pick_t rfl rfl) rfl rfl ?_
              refine m_take 17 false rfl rfl (by kernel_rfl) (by kernel_rfl) (by kernel_rfl) (fun _ _ _ _ h => h) (v_pick_f rfl rfl) rfl rfl ?_
              refine m_take 18 false rfl rfl (by kernel_rfl) (by kernel_rfl) (by kernel_rfl) (fun _ _ _ _ h => h) (v_move rfl) rfl rfl ?_
              refine m_split 109 rfl (fun hg109 => ?_) (fun hg109 => ?_)
              · exfalso; (try simp only [decide_eq_true_eq, decide_eq_false_iff_not, Bool.not_eq_true', Bool.not_eq_false', Bool.not_eq_eq_eq_not, Bool.not_true, Bool.not_false, Bool.and_eq_true, Bool.or_eq_true, Bool.or_eq_false_iff, beq_iff_eq, beq_eq_false_iff_ne, ne_eq, Int.not_lt, Int.not_le, Decidable.not_not] at hg109); simp [hj3] at hg109
              · try simp only [decide_eq_true_eq, decide_eq_false_iff_not, Bool.not_eq_true', Bool.not_eq_false', Bool.not_eq_eq_eq_not, Bool.not_true, Bool.not_false, Bool.and_eq_true, Bool.or_eq_true, Bool.or_eq_false_iff, beq_iff_eq, beq_eq_false_iff_ne, ne_eq, Int.not_lt, Int.not_le, Decidable.not_not] at hg109
                refine m_take_yes (j := 18) (t := 109) 19 false rfl rfl rfl rfl rfl (by kernel_rfl) (by kernel_rfl) (by kernel_rfl) (fun _ _ _ _ h => h) (v_move rfl) rfl rfl ?_
                refine m_take_yes (j := 18) (t := 109) 20 false rfl rfl rfl rfl rfl (by kernel_rfl) (by kernel_rfl) (by kernel_rfl) (fun _ _ _ _ h => h) (v_not rfl) rfl rfl ?_
                refine m_take_yes (j := 18) (t := 109) 21 false rfl rfl rfl rfl rfl (by kernel_rfl) (by kernel_rfl) (by kernel_rfl) (fun _ _ _ _ h => h) (v_move rfl) rfl rfl ?_
                refine m_split 112 rfl (fun hg112 => ?_) (fun hg112 => ?_)
                · try simp only [decide_eq_true_eq, decide_eq_false_iff_not, Bool.not_eq_true', Bool.not_eq_false', Bool.not_eq_eq_eq_not, Bool.not_true, Bool.not_false, Bool.and_eq_true, Bool.or_eq_true, Bool.or_eq_false_iff, beq_iff_eq, beq_eq_false_iff_ne, ne_eq, Int.not_lt, Int.not_le, Decidable.not_not] at hg112
                  refine m_take_yes (j := 21) (t := 112) 22 false rfl rfl rfl rfl rfl (by kernel_rfl) (by kernel_rfl) (by kernel_rfl) (fun _ _ _ _ h => h) (v_move rfl) rfl rfl ?_
                  refine m_take_yes (j := 21) (t := 112) 23 false rfl rfl rfl rfl rfl (by kernel_rfl) (by kernel_rfl) (by kernel_rfl) (fun _ _ _ _ h => h) (v_len ty49 rfl (by first | rfl | assumption) (by first | exact List.length_map .. | rfl)) rfl rfl ?_
                  refine m_take_yes (j := 21) (t := 112) 24 false rfl rfl rfl rfl rfl (by kernel_rfl) (by kernel_rfl) (by kernel_rfl) (fun _ _ _ _ h => h) (v_neq rfl rfl) rfl rfl ?_
                  refine m_take_yes (j := 18) (t := 109) 25 false rfl rfl rfl rfl rfl (by kernel_rfl) (by kernel_rfl) (by kernel_rfl) (fun _ _ _ _ h => h) (v_pick_t rfl rfl) rfl rfl ?_
                  refine m_take 26 false rfl rfl (by kernel_rfl) (by kernel_rfl) (by kernel_rfl) (fun _ _ _ _ h => h) (v_pick_f rfl rfl) rfl rfl ?_
                  refine m_done (by kernel_rfl) ?_
                  refine g_next hK22 ?_
                  refine g_keep [0, 5, 6, 7, 8, 117] [3] [3] rfl rfl rfl rfl ?_
                  refine g_cond rfl (fun hc117 => ?_) (fun hc117 => ?_)
                  · exfalso; (try simp only [decide_eq_true_eq, decide_eq_false_iff_not, Bool.not_eq_true', Bool.not_eq_false', Bool.not_eq_eq_eq_not, Bool.not_true, Bool.not_false, Bool.and_eq_true, Bool.or_eq_true, Bool.or_eq_false_iff, beq_iff_eq, beq_eq_false_iff_ne, ne_eq, Int.not_lt, Int.not_le, Decidable.not_not] at hc117); simp_all
                  · try simp only [decide_eq_true_eq, decide_eq_false_iff_not, Bool.not_eq_true', Bool.not_eq_false', Bool.not_eq_eq_eq_not, Bool.not_true, Bool.not_false, Bool.and_eq_true, Bool.or_eq_true, Bool.or_eq_false_iff, beq_iff_eq, beq_eq_false_iff_ne, ne_eq, Int.not_lt, Int.not_le, Decidable.not_not] at hc117
                    refine g_skip ?_
                    refine g_next hK21 ?_
                    refine g_seq (fun K23 hK23 => ?_)
                    refine g_seq (fun K24 hK24 => ?_)
                    refine g_region ?_
                    refine g_step rfl (s_val (v_move rfl) rfl rfl ?_)
                    refine g_step rfl (s_callp rfl rfl rfl (may06_ok b _ _ rfl hsb) ?_)
                    rintro _ rfl
                    refine g_step rfl (s_val (v_not rfl) rfl rfl ?_)
                    refine g_step rfl (s_val (v_move rfl) rfl rfl ?_)
                    refine g_split 121 rfl (fun hg121 => ?_) (fun hg121 => ?_)
                    · try simp only [decide_eq_true_eq, decide_eq_false_iff_not, Bool.not_eq_true', Bool.not_eq_false', Bool.not_eq_eq_eq_not, Bool.not_true, Bool.not_false, Bool.and_eq_true, Bool.or_eq_true, Bool.or_eq_false_iff, beq_iff_eq, beq_eq_false_iff_ne, ne_eq, Int.not_lt, Int.not_le, Decidable.not_not] at hg121
                      refine g_step_no (j := 3) (t := 121) rfl rfl rfl rfl rfl rfl rfl ?_
                      refine g_step_no (j := 3) (t := 121) rfl rfl rfl rfl rfl rfl rfl ?_
                      refine g_step_no (j := 3) (t := 121) rfl rfl rfl rfl rfl rfl rfl ?_
                      refine g_step_no (j := 3) (t := 121) rfl rfl rfl rfl rfl rfl rfl ?_
                      refine g_step rfl (s_val (v_pick_t rfl rfl) rfl rfl ?_)
                      refine g_nil ?_
                      refine g_next hK24 ?_
                      refine g_cond rfl (fun _ => ?_) (fun h => by cases h)
                      refine g_seq (fun K25 hK25 => ?_)
                      refine g_region ?_
                      have hbp : bput b f = ([], 1) := by rw [bput, if_neg (by simp_all)]
                      refine g_step rfl (s_val (v_move rfl) rfl rfl ?_)
                      refine g_step rfl (s_val (v_len ty30 rfl (by first | rfl | assumption) (by first | exact List.length_map .. | rfl)) rfl rfl ?_)
                      refine g_step rfl (s_val (v_eql rfl rfl) rfl rfl ?_)
                      refine g_step rfl (s_val (v_move rfl) rfl rfl ?_)
                      refine g_split 130 rfl (fun hg130 => ?_) (fun hg130 => ?_)
                      · try simp only [decide_eq_true_eq, decide_eq_false_iff_not, Bool.not_eq_true', Bool.not_eq_false', Bool.not_eq_eq_eq_not, Bool.not_true, Bool.not_false, Bool.and_eq_true, Bool.or_eq_true, Bool.or_eq_false_iff, beq_iff_eq, beq_eq_false_iff_ne, ne_eq, Int.not_lt, Int.not_le, Decidable.not_not] at hg130
                        refine g_step_yes (j := 3) (t := 130) rfl rfl rfl rfl (s_val (v_move rfl) rfl rfl ?_)
                        refine g_step_yes (j := 3) (t := 130) rfl rfl rfl rfl (s_val (v_eql rfl rfl) rfl rfl ?_)
                        refine g_step rfl (s_val (v_pick_t rfl rfl) rfl rfl ?_)
                        refine g_step rfl (s_val (v_move rfl) rfl rfl ?_)
                        refine g_split 134 rfl (fun hg134 => ?_) (fun hg134 => ?_)
                        · try simp only [decide_eq_true_eq, decide_eq_false_iff_not, Bool.not_eq_true', Bool.not_eq_false', Bool.not_eq_eq_eq_not, Bool.not_true, Bool.not_false, Bool.and_eq_true, Bool.or_eq_true, Bool.or_eq_false_iff, beq_iff_eq, beq_eq_false_iff_ne, ne_eq, Int.not_lt, Int.not_le, Decidable.not_not] at hg134
                          refine g_step_yes (j := 7) (t := 134) rfl rfl rfl rfl (s_callp rfl rfl rfl (awake06_ok _) ?_)
                          rintro _ rfl
                          refine g_step rfl (s_val (v_pick_t rfl rfl) rfl rfl ?_)
                          refine g_step rfl (s_val (v_assign rfl) rfl rfl ?_)
                          refine g_nil ?_
                          refine g_next hK25 ?_
                          refine g_keep [4] [] [] rfl rfl rfl rfl ?_
                          refine g_ret ?_
                          refine g_then_ret ?_
                          refine g_end1 (.inl rfl) Try.results9 (.tmp rfl) [] (ASub.refl _) (by first | exact AHeap.sub_refl _ | exact AHeap.sub_trans ho9.sub (AHeap.sub_trans ho8.sub ho7.sub) | exact AHeap.sub_trans ho9.sub (AHeap.sub_trans ho8.sub h142.sub)) (fun p hp => by cases hp) ⟨rfl, ?_⟩
                          rfl
                        · exfalso; (try simp only [decide_eq_true_eq, decide_eq_false_iff_not, Bool.not_eq_true', Bool.not_eq_false', Bool.not_eq_eq_eq_not, Bool.not_true, Bool.not_false, Bool.and_eq_true, Bool.or_eq_true, Bool.or_eq_false_iff, beq_iff_eq, beq_eq_false_iff_ne, ne_eq, Int.not_lt, Int.not_le, Decidable.not_not] at hg134); simp [hbp] at hg134
                      · exfalso; (try simp only [decide_eq_true_eq, decide_eq_false_iff_not, Bool.not_eq_true', Bool.not_eq_false', Bool.not_eq_eq_eq_not, Bool.not_true, Bool.not_false, Bool.and_eq_true, Bool.or_eq_true, Bool.or_eq_false_iff, beq_iff_eq, beq_eq_false_iff_ne, ne_eq, Int.not_lt, Int.not_le, Decidable.not_not] at hg130); simp [hbp] at hg130
                    · try simp only [decide_eq_true_eq, decide_eq_false_iff_not, Bool.not_eq_true', Bool.not_eq_false', Bool.not_eq_eq_eq_not, Bool.not_true, Bool.not_false, Bool.and_eq_true, Bool.or_eq_true, Bool.or_eq_false_iff, beq_iff_eq, beq_eq_false_iff_ne, ne_eq, Int.not_lt, Int.not_le, Decidable.not_not] at hg121
                      refine g_step_yes (j := 3) (t := 121) rfl rfl rfl rfl (s_val (by first | exact v_loadl_all ty51 rfl rfl rfl rfl rfl | exact v_loadl_part (cs := [_, _]) ty51 rfl rfl rfl rfl rfl rfl) rfl rfl ?_)
                      refine g_step_yes (j := 3) (t := 121) rfl rfl rfl rfl (s_lit ty30 ty51 rfl rfl rfl rfl rfl rfl rfl ?_)
                      refine g_step_yes (j := 3) (t := 121) rfl rfl rfl rfl (s_callp rfl rfl rfl (may06_ok [f] _ _ rfl hsf) ?_)
                      rintro _ rfl
                      refine g_step_yes (j := 3) (t := 121) rfl rfl rfl rfl (s_val (v_not rfl) rfl rfl ?_)
                      refine g_step rfl (s_val (v_pick_f rfl rfl) rfl rfl ?_)
                      refine g_nil ?_
                      refine g_next hK24 ?_
                      refine g_cond rfl (fun hc126 => ?_) (fun hc126 => ?_)
                      · try simp only [decide_eq_true_eq, decide_eq_false_iff_not, Bool.not_eq_true', Bool.not_eq_false', Bool.not_eq_eq_eq_not, Bool.not_true, Bool.not_false, Bool.and_eq_true, Bool.or_eq_true, Bool.or_eq_false_iff, beq_iff_eq, beq_eq_false_iff_ne, ne_eq, Int.not_lt, Int.not_le, Decidable.not_not] at hc126
                        refine g_seq (fun K26 hK26 => ?_)
                        refine g_region ?_
                        have hbp : bput b f = ([], 1) := by rw [bput, if_neg (by simp_all)]
                        refine g_step rfl (s_val (v_move rfl) rfl rfl ?_)
                        refine g_step rfl (s_val (v_len ty30 rfl (by first | rfl | assumption) (by first | exact List.length_map .. | rfl)) rfl rfl ?_)
                        refine g_step rfl (s_val (v_eql rfl rfl) rfl rfl ?_)
                        refine g_step rfl (s_val (v_move rfl) rfl rfl ?_)
                        refine g_split 130 rfl (fun hg130 => ?_) (fun hg130 => ?_)
                        · try simp only [decide_eq_true_eq, decide_eq_false_iff_not, Bool.not_eq_true', Bool.not_eq_false', Bool.not_eq_eq_eq_not, Bool.not_true, Bool.not_false, Bool.and_eq_true, Bool.or_eq_true, Bool.or_eq_false_iff, beq_iff_eq, beq_eq_false_iff_ne, ne_eq, Int.not_lt, Int.not_le, Decidable.not_not] at hg130
                          refine g_step_yes (j := 3) (t := 130) rfl rfl rfl rfl (s_val (v_move rfl) rfl rfl ?_)
                          refine g_step_yes (j := 3) (t := 130) rfl rfl rfl rfl (s_val (v_eql rfl rfl) rfl rfl ?_)
                          refine g_step rfl (s_val (v_pick_t rfl rfl) rfl rfl ?_)
                          refine g_step rfl (s_val (v_move rfl) rfl rfl ?_)
                          refine g_split 134 rfl (fun hg134 => ?_) (fun hg134 => ?_)
                          · try simp only [decide_eq_true_eq, decide_eq_false_iff_not, Bool.not_eq_true', Bool.not_eq_false', Bool.not_eq_eq_eq_not, Bool.not_true, Bool.not_false, Bool.and_eq_true, Bool.or_eq_true, Bool.or_eq_false_iff, beq_iff_eq, beq_eq_false_iff_ne, ne_eq, Int.not_lt, Int.not_le, Decidable.not_not] at hg134
                            refine g_step_yes (j := 7) (t := 134) rfl rfl rfl rfl (s_callp rfl rfl rfl (awake06_ok _) ?_)
                            rintro _ rfl
                            refine g_step rfl (s_val (v_pick_t rfl rfl) rfl rfl ?_)
                            refine g_step rfl (s_val (v_assign rfl) rfl rfl ?_)
                            refine g_nil ?_
                            refine g_next hK26 ?_
                            refine g_keep [4] [] [] rfl rfl rfl rfl ?_
                            refine g_ret ?_
                            refine g_then_ret ?_
                            refine g_end1 (.inl rfl) Try.results9 (.tmp rfl) [] (ASub.refl _) (by first | exact AHeap.sub_refl _ | exact AHeap.sub_trans ho9.sub (AHeap.sub_trans ho8.sub ho7.sub) | exact AHeap.sub_trans ho9.sub (AHeap.sub_trans ho8.sub h142.sub)) (fun p hp => by cases hp) ⟨rfl, ?_⟩
                            rfl
                          · exfalso; (try simp only [decide_eq_true_eq, decide_eq_false_iff_not, Bool.not_eq_true', Bool.not_eq_false', Bool.not_eq_eq_eq_not, Bool.not_true, Bool.not_false, Bool.and_eq_true, Bool.or_eq_true, Bool.or_eq_false_iff, beq_iff_eq, beq_eq_false_iff_ne, ne_eq, Int.not_lt, Int.not_le, Decidable.not_not] at hg134); simp [hbp] at hg134
                        · exfalso; (try simp only [decide_eq_true_eq, decide_eq_false_iff_not, Bool.not_eq_true', Bool.not_eq_false', Bool.not_eq_eq_eq_not, Bool.not_true, Bool.not_false, Bool.and_eq_true, Bool.or_eq_true, Bool.or_eq_false_iff, beq_iff_eq, beq_eq_false_iff_ne, ne_eq, Int.not_lt, Int.not_le, Decidable.not_not] at hg130); simp [hbp] at hg130
                      · try simp only [decide_eq_true_eq, decide_eq_false_iff_not, Bool.not_eq_true', Bool.not_eq_false', Bool.not_eq_eq_eq_not, Bool.not_true, Bool.not_false, Bool.and_eq_true, Bool.or_eq_true, Bool.or_eq_false_iff, beq_iff_eq, beq_eq_false_iff_ne, ne_eq, Int.not_lt, Int.not_le, Decidable.not_not] at hc126
                        refine g_skip ?_
                        refine g_next hK23 ?_
                        refine g_seq (fun K27 hK27 => ?_)
                        refine g_region ?_
                        have hvb : bagValid b = true ∧ bagValid [f] = true := by simp_all
                        have hw : (((b).filter (fun x => decide (x.tag ≤ f.tag))) ++ [f] ++ ((b).filter (fun x => !decide (x.tag ≤ f.tag)))) = bins b f := (bins_filter hvb.1).symm
                        have hsw := bins_small hvb.1 hvb.2
                        have huw : U8s (bins b f) := by rw [← hw]; intro g hg; simp only [List.mem_append, List.mem_singleton] at hg; rcases hg with (hg | rfl) | hg; exact hub g ((List.mem_filter.1 hg).1); exact huf; exact hub g ((List.mem_filter.1 hg).1)
                        have hlw1 := List.length_filter_le (fun x => decide (x.tag ≤ f.tag)) b
                        have hlw2 := List.length_filter_le (fun x => !decide (x.tag ≤ f.tag)) b
                        refine g_step rfl (s_val (v_move rfl) rfl rfl ?_)
                        refine g_step rfl (s_val (by first | exact v_loadl_all ty51 rfl rfl rfl rfl rfl | exact v_loadl_part (cs := [_, _]) ty51 rfl rfl rfl rfl rfl rfl) rfl rfl ?_)
                        refine g_step rfl (s_lit ty30 ty51 rfl rfl rfl rfl rfl rfl rfl ?_)
                        refine g_step rfl (s_append (l := (((b).filter (fun x => decide (x.tag ≤ f.tag))).map encFd)) (m := ([f].map encFd)) ty30 ty51 rfl rfl ho7 rfl rfl (by refine Even.map _ ?_ _; intro _; rfl) (by intro x hx; obtain ⟨_, _, rfl⟩ := List.mem_map.1 hx; rfl) rfl (by simp; omega) (by simp; omega) ?_)
                        intro av140 G140 h140
                        rw [← List.map_append] at h140
                        refine g_step rfl (s_val (v_move rfl) rfl rfl ?_)
                        refine g_step rfl (s_append (l := ((((b).filter (fun x => decide (x.tag ≤ f.tag))) ++ [f]).map encFd)) (m := (((b).filter (fun x => !decide (x.tag ≤ f.tag))).map encFd)) ty30 ty51 rfl rfl h140 rfl (view_sub h140.sub ho8.view) (by refine Even.map _ ?_ _; intro _; rfl) (by intro x hx; obtain ⟨_, _, rfl⟩ := List.mem_map.1 hx; rfl) rfl (by simp; omega) (by simp; omega) ?_)
                        intro av142 G142 h142
                        rw [← List.map_append, hw] at h142
                        refine g_step rfl (s_val (v_assign rfl) rfl rfl ?_)
                        refine g_nil ?_
                        refine g_next hK27 ?_
                        refine g_seq (fun K28 hK28 => ?_)
                        refine g_seq (fun K29 hK29 => ?_)
                        refine g_region ?_
                        refine g_step rfl (s_val (v_move rfl) rfl rfl ?_)
                        refine g_step rfl (s_callp rfl rfl rfl (may06_ok (bins b f) _ av142 h142.view hsw) ?_)
                        rintro _ rfl
                        refine g_step rfl (s_val (v_not rfl) rfl rfl ?_)
                        refine g_nil ?_
                        refine g_next hK29 ?_
                        refine g_keep [5, 6, 14, 145] [] [] rfl rfl rfl rfl ?_
                        refine g_cond rfl (fun hc145 => ?_) (fun hc145 => ?_)
                        · try simp only [decide_eq_true_eq, decide_eq_false_iff_not, Bool.not_eq_true', Bool.not_eq_false', Bool.not_eq_eq_eq_not, Bool.not_true, Bool.not_false, Bool.and_eq_true, Bool.or_eq_true, Bool.or_eq_false_iff, beq_iff_eq, beq_eq_false_iff_ne, ne_eq, Int.not_lt, Int.not_le, Decidable.not_not] at hc145
                          have hbp : bput b f = ([], 6) := by rw [bput, if_pos (by simp [hvb]), if_neg (by simp_all)]
                          refine g_seq (fun K30 hK30 => ?_)
                          refine g_region ?_
                          refine g_step rfl (s_val (v_move rfl) rfl rfl ?_)
                          refine g_step rfl (s_val (v_len ty30 rfl (by first | rfl | assumption) (by first | exact List.length_map .. | rfl)) rfl rfl ?_)
                          refine g_step rfl (s_val (v_eql rfl rfl) rfl rfl ?_)
                          refine g_step rfl (s_val (v_move rfl) rfl rfl ?_)
                          refine g_split 149 rfl (fun hg149 => ?_) (fun hg149 => ?_)
                          · try simp only [decide_eq_true_eq, decide_eq_false_iff_not, Bool.not_eq_true', Bool.not_eq_false', Bool.not_eq_eq_eq_not, Bool.not_true, Bool.not_false, Bool.and_eq_true, Bool.or_eq_true, Bool.or_eq_false_iff, beq_iff_eq, beq_eq_false_iff_ne, ne_eq, Int.not_lt, Int.not_le, Decidable.not_not] at hg149
                            refine g_step_yes (j := 3) (t := 149) rfl rfl rfl rfl (s_val (v_move rfl) rfl rfl ?_)
                            refine g_step_yes (j := 3) (t := 149) rfl rfl rfl rfl (s_val (v_eql rfl rfl) rfl rfl ?_)
                            refine g_step rfl (s_val (v_pick_t rfl rfl) rfl rfl ?_)
                            refine g_step rfl (s_val (v_move rfl) rfl rfl ?_)
                            refine g_split 153 rfl (fun hg153 => ?_) (fun hg153 => ?_)
                            · try simp only [decide_eq_true_eq, decide_eq_false_iff_not, Bool.not_eq_true', Bool.not_eq_false', Bool.not_eq_eq_eq_not, Bool.not_true, Bool.not_false, Bool.and_eq_true, Bool.or_eq_true, Bool.or_eq_false_iff, beq_iff_eq, beq_eq_false_iff_ne, ne_eq, Int.not_lt, Int.not_le, Decidable.not_not] at hg153
                              refine g_step_yes (j := 7) (t := 153) rfl rfl rfl rfl (s_callp rfl rfl rfl (awake06_ok _) ?_)
                              rintro _ rfl
                              refine g_step rfl (s_val (v_pick_t rfl rfl) rfl rfl ?_)
                              refine g_step rfl (s_val (v_assign rfl) rfl rfl ?_)
                              refine g_nil ?_
                              refine g_next hK30 ?_
                              refine g_ret ?_
                              refine g_then_ret ?_
                              refine g_end1 (.inl rfl) Try.results9 (.tmp rfl) [] (ASub.refl _) (by first | exact AHeap.sub_refl _ | exact AHeap.sub_trans ho9.sub (AHeap.sub_trans ho8.sub ho7.sub) | exact AHeap.sub_trans ho9.sub (AHeap.sub_trans ho8.sub h142.sub)) (fun p hp => by cases hp) ⟨rfl, ?_⟩
                              rfl
                            · exfalso; (try simp only [decide_eq_true_eq, decide_eq_false_iff_not, Bool.not_eq_true', Bool.not_eq_false', Bool.not_eq_eq_eq_not, Bool.not_true, Bool.not_false, Bool.and_eq_true, Bool.or_eq_true, Bool.or_eq_false_iff, beq_iff_eq, beq_eq_false_iff_ne, ne_eq, Int.not_lt, Int.not_le, Decidable.not_not] at hg153); simp [hbp] at hg153
                          · exfalso; (try simp only [decide_eq_true_eq, decide_eq_false_iff_not, Bool.not_eq_true', Bool.not_eq_false', Bool.not_eq_eq_eq_not, Bool.not_true, Bool.not_false, Bool.and_eq_true, Bool.or_eq_true, Bool.or_eq_false_iff, beq_iff_eq, beq_eq_false_iff_ne, ne_eq, Int.not_lt, Int.not_le, Decidable.not_not] at hg149); simp [hbp] at hg149
                        · try simp only [decide_eq_true_eq, decide_eq_false_iff_not, Bool.not_eq_true', Bool.not_eq_false', Bool.not_eq_eq_eq_not, Bool.not_true, Bool.not_false, Bool.and_eq_true, Bool.or_eq_true, Bool.or_eq_false_iff, beq_iff_eq, beq_eq_false_iff_ne, ne_eq, Int.not_lt, Int.not_le, Decidable.not_not] at hc145
                          have hbp : bput b f = (bins b f, 0) := by rw [bput, if_pos (by simp [hvb]), if_pos (by simp_all)]
                          refine g_skip ?_
                          refine g_next hK28 ?_
                          refine g_seq (fun K31 hK31 => ?_)
                          refine g_region ?_
                          refine g_step rfl (s_val (v_move rfl) rfl rfl ?_)
                          refine g_step rfl (s_val (v_eql rfl rfl) rfl rfl ?_)
                          refine g_step rfl (s_val (v_move rfl) rfl rfl ?_)
                          refine g_split 158 rfl (fun hg158 => ?_) (fun hg158 => ?_)
                          · try simp only [decide_eq_true_eq, decide_eq_false_iff_not, Bool.not_eq_true', Bool.not_eq_false', Bool.not_eq_eq_eq_not, Bool.not_true, Bool.not_false, Bool.and_eq_true, Bool.or_eq_true, Bool.or_eq_false_iff, beq_iff_eq, beq_eq_false_iff_ne, ne_eq, Int.not_lt, Int.not_le, Decidable.not_not] at hg158
                            refine g_step_yes (j := 2) (t := 158) rfl rfl rfl rfl (s_val (v_move rfl) rfl rfl ?_)
                            refine g_step_yes (j := 2) (t := 158) rfl rfl rfl rfl (s_val (v_move rfl) rfl rfl ?_)
                            refine g_step_yes (j := 2) (t := 158) rfl rfl rfl rfl (s_callp rfl rfl rfl (alike06_ok (bput b f).1 (bins b f) _ _ av142 rfl h142.view (by rw [hbp]; exact hsw.1) (by rw [hbp]; exact huw) huw) ?_)
                            rintro _ rfl
                            refine g_step rfl (s_val (v_pick_t rfl rfl) rfl rfl ?_)
                            refine g_step rfl (s_val (v_move rfl) rfl rfl ?_)
                            refine g_split 163 rfl (fun hg163 => ?_) (fun hg163 => ?_)
                            · try simp only [decide_eq_true_eq, decide_eq_false_iff_not, Bool.not_eq_true', Bool.not_eq_false', Bool.not_eq_eq_eq_not, Bool.not_true, Bool.not_false, Bool.and_eq_true, Bool.or_eq_true, Bool.or_eq_false_iff, beq_iff_eq, beq_eq_false_iff_ne, ne_eq, Int.not_lt, Int.not_le, Decidable.not_not] at hg163
                              refine g_step_yes (j := 7) (t := 163) rfl rfl rfl rfl (s_callp rfl rfl rfl (awake06_ok _) ?_)
                              rintro _ rfl
                              refine g_step rfl (s_val (v_pick_t rfl rfl) rfl rfl ?_)
                              refine g_step rfl (s_val (v_assign rfl) rfl rfl ?_)
                              refine g_nil ?_
                              refine g_next hK31 ?_
                              refine g_ret ?_
                              refine g_end1 (.inl rfl) Try.results9 (.tmp rfl) [] (ASub.refl _) (by first | exact AHeap.sub_refl _ | exact AHeap.sub_trans ho9.sub (AHeap.sub_trans ho8.sub ho7.sub) | exact AHeap.sub_trans ho9.sub (AHeap.sub_trans ho8.sub h142.sub)) (fun p hp => by cases hp) ⟨rfl, ?_⟩
                              rfl
                            · exfalso; (try simp only [decide_eq_true_eq, decide_eq_false_iff_not, Bool.not_eq_true', Bool.not_eq_false', Bool.not_eq_eq_eq_not, Bool.not_true, Bool.not_false, Bool.and_eq_true, Bool.or_eq_true, Bool.or_eq_false_iff, beq_iff_eq, beq_eq_false_iff_ne, ne_eq, Int.not_lt, Int.not_le, Decidable.not_not] at hg163); simp [hbp] at hg163
                          · exfalso; (try simp only [decide_eq_true_eq, decide_eq_false_iff_not, Bool.not_eq_true', Bool.not_eq_false', Bool.not_eq_eq_eq_not, Bool.not_true, Bool.not_false, Bool.and_eq_true, Bool.or_eq_true, Bool.or_eq_false_iff, beq_iff_eq, beq_eq_false_iff_ne, ne_eq, Int.not_lt, Int.not_le, Decidable.not_not] at hg158); simp [hbp] at hg158
                · try simp only [decide_eq_true_eq, decide_eq_false_iff_not, Bool.not_eq_true', Bool.not_eq_false', Bool.not_eq_eq_eq_not, Bool.not_true, Bool.not_false, Bool.and_eq_true, Bool.or_eq_true, Bool.or_eq_false_iff, beq_iff_eq, beq_eq_false_iff_ne, ne_eq, Int.not_lt, Int.not_le, Decidable.not_not] at hg112
                  refine m_take_no (j := 21) (t := 112) 22 rfl rfl rfl rfl rfl rfl (by kernel_rfl) (by kernel_rfl) (by kernel_rfl) (fun _ _ _ _ h => h) rfl rfl ?_
                  refine m_take_no (j := 21) (t := 112) 23 rfl rfl rfl rfl rfl rfl (by kernel_rfl) (by kernel_rfl) (by kernel_rfl) (fun _ _ _ _ h => h) rfl rfl ?_
                  refine m_take_no (j := 21) (t := 112) 24 rfl rfl rfl rfl rfl rfl (by kernel_rfl) (by kernel_rfl) (by kernel_rfl) (fun _ _ _ _ h => h) rfl rfl ?_
                  refine m_take_yes (j := 18) (t := 109) 25 false rfl rfl rfl rfl rfl (by kernel_rfl) (by kernel_rfl) (by kernel_rfl) (fun _ _ _ _ h => h) (v_pick_f rfl rfl) rfl rfl ?_
                  refine m_take 26 false rfl rfl (by kernel_rfl) (by kernel_rfl) (by kernel_rfl) (fun _ _ _ _ h => h) (v_pick_f rfl rfl) rfl rfl ?_
                  refine m_done (by kernel_rfl) ?_
                  refine g_next hK22 ?_
                  refine g_keep [0, 5, 6, 7, 8, 117] [3] [3] rfl rfl rfl rfl ?_
                  refine g_cond rfl (fun h => by cases h) (fun _ => ?_)
                  refine g_skip ?_
                  refine g_next hK21 ?_
                  refine g_seq (fun K32 hK32 => ?_)
                  refine g_seq (fun K33 hK33 => ?_)
                  refine g_region ?_
                  refine g_step rfl (s_val (v_move rfl) rfl rfl ?_)
                  refine g_step rfl (s_callp rfl rfl rfl (may06_ok b _ _ rfl hsb) ?_)
                  rintro _ rfl
                  refine g_step rfl (s_val (v_not rfl) rfl rfl ?_)
                  refine g_step rfl (s_val (v_move rfl) rfl rfl ?_)
                  refine g_split 121 rfl (fun hg121 => ?_) (fun hg121 => ?_)
                  · try simp only [decide_eq_true_eq, decide_eq_false_iff_not, Bool.not_eq_true', Bool.not_eq_false', Bool.not_eq_eq_eq_not, Bool.not_true, Bool.not_false, Bool.and_eq_true, Bool.or_eq_true, Bool.or_eq_false_iff, beq_iff_eq, beq_eq_false_iff_ne, ne_eq, Int.not_lt, Int.not_le, Decidable.not_not] at hg121
                    refine g_step_no (j := 3) (t := 121) rfl rfl rfl rfl rfl rfl rfl ?_
                    refine g_step_no (j := 3) (t := 121) rfl rfl rfl rfl rfl rfl rfl ?_
                    refine g_step_no (j := 3) (t := 121) rfl rfl rfl rfl rfl rfl rfl ?_
                    refine g_step_no (j := 3) (t := 121) rfl rfl rfl rfl rfl rfl rfl ?_
                    refine g_step rfl (s_val (v_pick_t rfl rfl) rfl rfl ?_)
                    refine g_nil ?_
                    refine g_next hK33 ?_
                    refine g_cond rfl (fun _ => ?_) (fun h => by cases h)
                    refine g_seq (fun K34 hK34 => ?_)
                    refine g_region ?_
                    have hbp : bput b f = ([], 1) := by rw [bput, if_neg (by simp_all)]
                    refine g_step rfl (s_val (v_move rfl) rfl rfl ?_)
                    refine g_step rfl (s_val (v_len ty30 rfl (by first | rfl | assumption) (by first | exact List.length_map .. | rfl)) rfl rfl ?_)
                    refine g_step rfl (s_val (v_eql rfl rfl) rfl rfl ?_)
                    refine g_step rfl (s_val (v_move rfl) rfl rfl ?_)
                    refine g_split 130 rfl (fun hg130 => ?_) (fun hg130 => ?_)
                    · try simp only [decide_eq_true_eq, decide_eq_false_iff_not, Bool.not_eq_true', Bool.not_eq_false', Bool.not_eq_eq_eq_not, Bool.not_true, Bool.not_false, Bool.and_eq_true, Bool.or_eq_true, Bool.or_eq_false_iff, beq_iff_eq, beq_eq_false_iff_ne, ne_eq, Int.not_lt, Int.not_le, Decidable.not_not] at hg130
                      refine g_step_yes (j := 3) (t := 130) rfl rfl rfl rfl (s_val (v_move rfl) rfl rfl ?_)
                      refine g_step_yes (j := 3) (t := 130) rfl rfl rfl rfl (s_val (v_eql rfl rfl) rfl rfl ?_)
                      refine g_step rfl (s_val (v_pick_t rfl rfl) rfl rfl ?_)
                      refine g_step rfl (s_val (v_move rfl) rfl rfl ?_)
                      refine g_split 134 rfl (fun hg134 => ?_) (fun hg134 => ?_)
                      · try simp only [decide_eq_true_eq, decide_eq_false_iff_not, Bool.not_eq_true', Bool.not_eq_false', Bool.not_eq_eq_eq_not, Bool.not_true, Bool.not_false, Bool.and_eq_true, Bool.or_eq_true, Bool.or_eq_false_iff, beq_iff_eq, beq_eq_false_iff_ne, ne_eq, Int.not_lt, Int.not_le, Decidable.not_not] at hg134
                        refine g_step_yes (j := 7) (t := 134) rfl rfl rfl rfl (s_callp rfl rfl rfl (awake06_ok _) ?_)
                        rintro _ rfl
                        refine g_step rfl (s_val (v_pick_t rfl rfl) rfl rfl ?_)
                        refine g_step rfl (s_val (v_assign rfl) rfl rfl ?_)
                        refine g_nil ?_
                        refine g_next hK34 ?_
                        refine g_keep [4] [] [] rfl rfl rfl rfl ?_
                        refine g_ret ?_
                        refine g_then_ret ?_
                        refine g_end1 (.inl rfl) Try.results9 (.tmp rfl) [] (ASub.refl _) (by first | exact AHeap.sub_refl _ | exact AHeap.sub_trans ho9.sub (AHeap.sub_trans ho8.sub ho7.sub) | exact AHeap.sub_trans ho9.sub (AHeap.sub_trans ho8.sub h142.sub)) (fun p hp => by cases hp) ⟨rfl, ?_⟩
                        rfl
                      · exfalso; (try simp only [decide_eq_true_eq, decide_eq_false_iff_not, Bool.not_eq_true', Bool.not_eq_false', Bool.not_eq_eq_eq_not, Bool.not_true, Bool.not_false, Bool.and_eq_true, Bool.or_eq_true, Bool.or_eq_false_iff, beq_iff_eq, beq_eq_false_iff_ne, ne_eq, Int.not_lt, Int.not_le, Decidable.not_not] at hg134); simp [hbp] at hg134
                    · exfalso; (try simp only [decide_eq_true_eq, decide_eq_false_iff_not, Bool.not_eq_true', Bool.not_eq_false', Bool.not_eq_eq_eq_not, Bool.not_true, Bool.not_false, Bool.and_eq_true, Bool.or_eq_true, Bool.or_eq_false_iff, beq_iff_eq, beq_eq_false_iff_ne, ne_eq, Int.not_lt, Int.not_le, Decidable.not_not] at hg130); simp [hbp] at hg130
                  · try simp only [decide_eq_true_eq, decide_eq_false_iff_not, Bool.not_eq_true', Bool.not_eq_false', Bool.not_eq_eq_eq_not, Bool.not_true, Bool.not_false, Bool.and_eq_true, Bool.or_eq_true, Bool.or_eq_false_iff, beq_iff_eq, beq_eq_false_iff_ne, ne_eq, Int.not_lt, Int.not_le, Decidable.not_not] at hg121
                    refine g_step_yes (j := 3) (t := 121) rfl rfl rfl rfl (s_val (by first | exact v_loadl_all ty51 rfl rfl rfl rfl rfl | exact v_loadl_part (cs := [_, _]) ty51 rfl rfl rfl rfl rfl rfl) rfl rfl ?_)
                    refine g_step_yes (j := 3) (t := 121) rfl rfl rfl rfl (s_lit ty30 ty51 rfl rfl rfl rfl rfl rfl rfl ?_)
                    refine g_step_yes (j := 3) (t := 121) rfl rfl rfl rfl (s_callp rfl rfl rfl (may06_ok [f] _ _ rfl hsf) ?_)
                    rintro _ rfl
                    refine g_step_yes (j := 3) (t := 121) rfl rfl rfl rfl (s_val (v_not rfl) rfl rfl ?_)
                    refine g_step rfl (s_val (v_pick_f rfl rfl) rfl rfl ?_)
                    refine g_nil ?_
                    refine g_next hK33 ?_
                    refine g_cond rfl (fun hc126 => ?_) (fun hc126 => ?_)
                    · try simp only [decide_eq_true_eq, decide_eq_false_iff_not, Bool.not_eq_true', Bool.not_eq_false', Bool.not_eq_eq_eq_not, Bool.not_true, Bool.not_false, Bool.and_eq_true, Bool.or_eq_true, Bool.or_eq_false_iff, beq_iff_eq, beq_eq_false_iff_ne, ne_eq, Int.not_lt, Int.not_le, Decidable.not_not] at hc126
                      refine g_seq (fun K35 hK35 => ?_)
                      refine g_region ?_
                      have hbp : bput b f = ([], 1) := by rw [bput, if_neg (by simp_all)]
                      refine g_step rfl (s_val (v_move rfl) rfl rfl ?_)
                      refine g_step rfl (s_val (v_len ty30 rfl (by first | rfl | assumption) (by first | exact List.length_map .. | rfl)) rfl rfl ?_)
                      refine g_step rfl (s_val (v_eql rfl rfl) rfl rfl ?_)
                      refine g_step rfl (s_val (v_move rfl) rfl rfl ?_)
                      refine g_split 130 rfl (fun hg130 => ?_) (fun hg130 => ?_)
                      · try simp only [decide_eq_true_eq, decide_eq_false_iff_not, Bool.not_eq_true', Bool.not_eq_false', Bool.not_eq_eq_eq_not, Bool.not_true, Bool.not_false, Bool.and_eq_true, Bool.or_eq_true, Bool.or_eq_false_iff, beq_iff_eq, beq_eq_false_iff_ne, ne_eq, Int.not_lt, Int.not_le, Decidable.not_not] at hg130
                        refine g_step_yes (j := 3) (t := 130) rfl rfl rfl rfl (s_val (v_move rfl) rfl rfl ?_)
                        refine g_step_yes (j := 3) (t := 130) rfl rfl rfl rfl (s_val (v_eql rfl rfl) rfl rfl ?_)
                        refine g_step rfl (s_val (v_pick_t rfl rfl) rfl rfl ?_)
                        refine g_step rfl (s_val (v_move rfl) rfl rfl ?_)
                        refine g_split 134 rfl (fun hg134 => ?_) (fun hg134 => ?_)
                        · try simp only [decide_eq_true_eq, decide_eq_false_iff_not, Bool.not_eq_true', Bool.not_eq_false', Bool.not_eq_eq_eq_not, Bool.not_true, Bool.not_false, Bool.and_eq_true, Bool.or_eq_true, Bool.or_eq_false_iff, beq_iff_eq, beq_eq_false_iff_ne, ne_eq, Int.not_lt, Int.not_le, Decidable.not_not] at hg134
                          refine g_step_yes (j := 7) (t := 134) rfl rfl rfl rfl (s_callp rfl rfl rfl (awake06_ok _) ?_)
                          rintro _ rfl
                          refine g_step rfl (s_val (v_pick_t rfl rfl) rfl rfl ?_)
                          refine g_step rfl (s_val (v_assign rfl) rfl rfl ?_)
                          refine g_nil ?_
                          refine g_next hK35 ?_
                          refine g_keep [4] [] [] rfl rfl rfl rfl ?_
                          refine g_ret ?_
                          refine g_then_ret ?_
                          refine g_end1 (.inl rfl) Try.results9 (.tmp rfl) [] (ASub.refl _) (by first | exact AHeap.sub_refl _ | exact AHeap.sub_trans ho9.sub (AHeap.sub_trans ho8.sub ho7.sub) | exact AHeap.sub_trans ho9.sub (AHeap.sub_trans ho8.sub h142.sub)) (fun p hp => by cases hp) ⟨rfl, ?_⟩
                          rfl
                        · exfalso; (try simp only [decide_eq_true_eq, decide_eq_false_iff_not, Bool.not_eq_true', Bool.not_eq_false', Bool.not_eq_eq_eq_not, Bool.not_true, Bool.not_false, Bool.and_eq_true, Bool.or_eq_true, Bool.or_eq_false_iff, beq_iff_eq, beq_eq_false_iff_ne, ne_eq, Int.not_lt, Int.not_le, Decidable.not_not] at hg134); simp [hbp] at hg134
                      · exfalso; (try simp only [decide_eq_true_eq, decide_eq_false_iff_not, Bool.not_eq_true', Bool.not_eq_false', Bool.not_eq_eq_eq_not, Bool.not_true, Bool.not_false, Bool.and_eq_true, Bool.or_eq_true, Bool.or_eq_false_iff, beq_iff_eq, beq_eq_false_iff_ne, ne_eq, Int.not_lt, Int.not_le, Decidable.not_not] at hg130); simp [hbp] at hg130
                    · try simp only [decide_eq_true_eq, decide_eq_false_iff_not, Bool.not_eq_true', Bool.not_eq_false', Bool.not_eq_eq_eq_not, Bool.not_true, Bool.not_false, Bool.and_eq_true, Bool.or_eq_true, Bool.or_eq_false_iff, beq_iff_eq, beq_eq_false_iff_ne, ne_eq, Int.not_lt, Int.not_le, Decidable.not_not] at hc126
                      refine g_skip ?_
                      refine g_next hK32 ?_
                      refine g_seq (fun K36 hK36 => ?_)
                      refine g_region ?_
                      have hvb : bagValid b = true ∧ bagValid [f] = true := by simp_all
                      have hw : (((b).filter (fun x => decide (x.tag ≤ f.tag))) ++ [f] ++ ((b).filter (fun x => !decide (x.tag ≤ f.tag)))) = bins b f := (bins_filter hvb.1).symm
                      have hsw := bins_small hvb.1 hvb.2
                      have huw : U8s (bins b f) := by rw [← hw]; intro g hg; simp only [List.mem_append, List.mem_singleton] at hg; rcases hg with (hg | rfl) | hg; exact hub g ((List.mem_filter.1 hg).1); exact huf; exact hub g ((List.mem_filter.1 hg).1)
                      have hlw1 := List.length_filter_le (fun x => decide (x.tag ≤ f.tag)) b
                      have hlw2 := List.length_filter_le (fun x => !decide (x.tag ≤ f.tag)) b
                      refine g_step rfl (s_val (v_move rfl) rfl rfl ?_)
                      refine g_step rfl (s_val (by first | exact v_loadl_all ty51 rfl rfl rfl rfl rfl | exact v_loadl_part (cs := [_, _]) ty51 rfl rfl rfl rfl rfl rfl) rfl rfl ?_)
                      refine g_step rfl (s_lit ty30 ty51 rfl rfl rfl rfl rfl rfl rfl ?_)
                      refine g_step rfl (s_append (l := (((b).filter (fun x => decide (x.tag ≤ f.tag))).map encFd)) (m := ([f].map encFd)) ty30 ty51 rfl rfl ho7 rfl rfl (by refine Even.map _ ?_ _; intro _; rfl) (by intro x hx; obtain ⟨_, _, rfl⟩ := List.mem_map.1 hx; rfl) rfl (by simp; omega) (by simp; omega) ?_)
                      intro av140 G140 h140
                      rw [← List.map_append] at h140
                      refine g_step rfl (s_val (v_move rfl) rfl rfl ?_)
                      refine g_step rfl (s_append (l := ((((b).filter (fun x => decide (x.tag ≤ f.tag))) ++ [f]).map encFd)) (m := (((b).filter (fun x => !decide (x.tag ≤ f.tag))).map encFd)) ty30 ty51 rfl rfl h140 rfl (view_sub h140.sub ho8.view) (by refine Even.map _ ?_ _; intro _; rfl) (by intro x hx; obtain ⟨_, _, rfl⟩ := List.mem_map.1 hx; rfl) rfl (by simp; omega) (by simp; omega) ?_)
                      intro av142 G142 h142
                      rw [← List.map_append, hw] at h142
                      refine g_step rfl (s_val (v_assign rfl) rfl rfl ?_)
                      refine g_nil ?_
                      refine g_next hK36 ?_
                      refine g_seq (fun K37 hK37 => ?_)
                      refine g_seq (fun K38 hK38 => ?_)
                      refine g_region ?_
                      refine g_step rfl (s_val (v_move rfl) rfl rfl ?_)
                      refine g_step rfl (s_callp rfl rfl rfl (may06_ok (bins b f) _ av142 h142.view hsw) ?_)
                      rintro _ rfl
                      refine g_step rfl (s_val (v_not rfl) rfl rfl ?_)
                      refine g_nil ?_
                      refine g_next hK38 ?_
                      refine g_keep [5, 6, 14, 145] [] [] rfl rfl rfl rfl ?_
                      refine g_cond rfl (fun hc145 => ?_) (fun hc145 => ?_)
                      · try simp only [decide_eq_true_eq, decide_eq_false_iff_not, Bool.not_eq_true', Bool.not_eq_false', Bool.not_eq_eq_eq_not, Bool.not_true, Bool.not_false, Bool.and_eq_true, Bool.or_eq_true, Bool.or_eq_false_iff, beq_iff_eq, beq_eq_false_iff_ne, ne_eq, Int.not_lt, Int.not_le, Decidable.not_not] at hc145
                        have hbp : bput b f = ([], 6) := by rw [bput, if_pos (by simp [hvb]), if_neg (by simp_all)]
                        refine g_seq (fun K39 hK39 => ?_)
                        refine g_region ?_
                        refine g_step rfl (s_val (v_move rfl) rfl rfl ?_)
                        refine g_step rfl (s_val (v_len ty30 rfl (by first | rfl | assumption) (by first | exact List.length_map .. | rfl)) rfl rfl ?_)
                        refine g_step rfl (s_val (v_eql rfl rfl) rfl rfl ?_)
                        refine g_step rfl (s_val (v_move rfl) rfl rfl ?_)
                        refine g_split 149 rfl (fun hg149 => ?_) (fun hg149 => ?_)
                        · try simp only [decide_eq_true_eq, decide_eq_false_iff_not, Bool.not_eq_true', Bool.not_eq_false', Bool.not_eq_eq_eq_not, Bool.not_true, Bool.not_false, Bool.and_eq_true, Bool.or_eq_true, Bool.or_eq_false_iff, beq_iff_eq, beq_eq_false_iff_ne, ne_eq, Int.not_lt, Int.not_le, Decidable.not_not] at hg149
                          refine g_step_yes (j := 3) (t := 149) rfl rfl rfl rfl (s_val (v_move rfl) rfl rfl ?_)
                          refine g_step_yes (j := 3) (t := 149) rfl rfl rfl rfl (s_val (v_eql rfl rfl) rfl rfl ?_)
                          refine g_step rfl (s_val (v_pick_t rfl rfl) rfl rfl ?_)
                          refine g_step rfl (s_val (v_move rfl) rfl rfl ?_)
                          refine g_split 153 rfl (fun hg153 => ?_) (fun hg153 => ?_)
                          · try simp only [decide_eq_true_eq, decide_eq_false_iff_not, Bool.not_eq_true', Bool.not_eq_false', Bool.not_eq_eq_eq_not, Bool.not_true, Bool.not_false, Bool.and_eq_true, Bool.or_eq_true, Bool.or_eq_false_iff, beq_iff_eq, beq_eq_false_iff_ne, ne_eq, Int.not_lt, Int.not_le, Decidable.not_not] at hg153
                            refine g_step_yes (j := 7) (t := 153) rfl rfl rfl rfl (s_callp rfl rfl rfl (awake06_ok _) ?_)
                            rintro _ rfl
                            refine g_step rfl (s_val (v_pick_t rfl rfl) rfl rfl ?_)
                            refine g_step rfl (s_val (v_assign rfl) rfl rfl ?_)
                            refine g_nil ?_
                            refine g_next hK39 ?_
                            refine g_ret ?_
                            refine g_then_ret ?_
                            refine g_end1 (.inl rfl) Try.results9 (.tmp rfl) [] (ASub.refl _) (by first | exact AHeap.sub_refl _ | exact AHeap.sub_trans ho9.sub (AHeap.sub_trans ho8.sub ho7.sub) | exact AHeap.sub_trans ho9.sub (AHeap.sub_trans ho8.sub h142.sub)) (fun p hp => by cases hp) ⟨rfl, ?_⟩
                            rfl
                          · exfalso; (try simp only [decide_eq_true_eq, decide_eq_false_iff_not, Bool.not_eq_true', Bool.not_eq_false', Bool.not_eq_eq_eq_not, Bool.not_true, Bool.not_false, Bool.and_eq_true, Bool.or_eq_true, Bool.or_eq_false_iff, beq_iff_eq, beq_eq_false_iff_ne, ne_eq, Int.not_lt, Int.not_le, Decidable.not_not] at hg153); simp [hbp] at hg153
                        · exfalso; (try simp only [decide_eq_true_eq, decide_eq_false_iff_not, Bool.not_eq_true', Bool.not_eq_false', Bool.not_eq_eq_eq_not, Bool.not_true, Bool.not_false, Bool.and_eq_true, Bool.or_eq_true, Bool.or_eq_false_iff, beq_iff_eq, beq_eq_false_iff_ne, ne_eq, Int.not_lt, Int.not_le, Decidable.not_not] at hg149); simp [hbp] at hg149
                      · try simp only [decide_eq_true_eq, decide_eq_false_iff_not, Bool.not_eq_true', Bool.not_eq_false', Bool.not_eq_eq_eq_not, Bool.not_true, Bool.not_false, Bool.and_eq_true, Bool.or_eq_true, Bool.or_eq_false_iff, beq_iff_eq, beq_eq_false_iff_ne, ne_eq, Int.not_lt, Int.not_le, Decidable.not_not] at hc145
                        have hbp : bput b f = (bins b f, 0) := by rw [bput, if_pos (by simp [hvb]), if_pos (by simp_all)]
                        refine g_skip ?_
                        refine g_next hK37 ?_
                        refine g_seq (fun K40 hK40 => ?_)
                        refine g_region ?_
                        refine g_step rfl (s_val (v_move rfl) rfl rfl ?_)
                        refine g_step rfl (s_val (v_eql rfl rfl) rfl rfl ?_)
                        refine g_step rfl (s_val (v_move rfl) rfl rfl ?_)
                        refine g_split 158 rfl (fun hg158 => ?_) (fun hg158 => ?_)
                        · try simp only [decide_eq_true_eq, decide_eq_false_iff_not, Bool.not_eq_true', Bool.not_eq_false', Bool.not_eq_eq_eq_not, Bool.not_true, Bool.not_false, Bool.and_eq_true, Bool.or_eq_true, Bool.or_eq_false_iff, beq_iff_eq, beq_eq_false_iff_ne, ne_eq, Int.not_lt, Int.not_le, Decidable.not_not] at hg158
                          refine g_step_yes (j := 2) (t := 158) rfl rfl rfl rfl (s_val (v_move rfl) rfl rfl ?_)
                          refine g_step_yes (j := 2) (t := 158) rfl rfl rfl rfl (s_val (v_move rfl) rfl rfl ?_)
                          refine g_step_yes (j := 2) (t := 158) rfl rfl rfl rfl (s_callp rfl rfl rfl (alike06_ok (bput b f).1 (bins b f) _ _ av142 rfl h142.view (by rw [hbp]; exact hsw.1) (by rw [hbp]; exact huw) huw) ?_)
                          rintro _ rfl
                          refine g_step rfl (s_val (v_pick_t rfl rfl) rfl rfl ?_)
                          refine g_step rfl (s_val (v_move rfl) rfl rfl ?_)
                          refine g_split 163 rfl (fun hg163 => ?_) (fun hg163 => ?_)
                          · try simp only [decide_eq_true_eq, decide_eq_false_iff_not, Bool.not_eq_true', Bool.not_eq_false', Bool.not_eq_eq_eq_not, Bool.not_true, Bool.not_false, Bool.and_eq_true, Bool.or_eq_true, Bool.or_eq_false_iff, beq_iff_eq, beq_eq_false_iff_ne, ne_eq, Int.not_lt, Int.not_le, Decidable.not_not] at hg163
                            refine g_step_yes (j := 7) (t := 163) rfl rfl rfl rfl (s_callp rfl rfl rfl (awake06_ok _) ?_)
                            rintro _ rfl
                            refine g_step rfl (s_val (v_pick_t rfl rfl) rfl rfl ?_)
                            refine g_step rfl (s_val (v_assign rfl) rfl rfl ?_)
                            refine g_nil ?_
                            refine g_next hK40 ?_
                            refine g_ret ?_
                            refine g_end1 (.inl rfl) Try.results9 (.tmp rfl) [] (ASub.refl _) (by first | exact AHeap.sub_refl _ | exact AHeap.sub_trans ho9.sub (AHeap.sub_trans ho8.sub ho7.sub) | exact AHeap.sub_trans ho9.sub (AHeap.sub_trans ho8.sub h142.sub)) (fun p hp => by cases hp) ⟨rfl, ?_⟩
                            rfl
                          · exfalso; (try simp only [decide_eq_true_eq, decide_eq_false_iff_not, Bool.not_eq_true', Bool.not_eq_false', Bool.not_eq_eq_eq_not, Bool.not_true, Bool.not_false, Bool.and_eq_true, Bool.or_eq_true, Bool.or_eq_false_iff, beq_iff_eq, beq_eq_false_iff_ne, ne_eq, Int.not_lt, Int.not_le, Decidable.not_not] at hg163); simp [hbp] at hg163
                        · exfalso; (try simp only [decide_eq_true_eq, decide_eq_false_iff_not, Bool.not_eq_true', Bool.not_eq_false', Bool.not_eq_eq_eq_not, Bool.not_true, Bool.not_false, Bool.and_eq_true, Bool.or_eq_true, Bool.or_eq_false_iff, beq_iff_eq, beq_eq_false_iff_ne, ne_eq, Int.not_lt, Int.not_le, Decidable.not_not] at hg158); simp [hbp] at hg158
            · try simp only [decide_eq_true_eq, decide_eq_false_iff_not, Bool.not_eq_true', Bool.not_eq_false', Bool.not_eq_eq_eq_not, Bool.not_true, Bool.not_false, Bool.and_eq_true, Bool.or_eq_true, Bool.or_eq_false_iff, beq_iff_eq, beq_eq_false_iff_ne, ne_eq, Int.not_lt, Int.not_le, Decidable.not_not] at hg97
              refine m_take_no (j := 6) (t := 97) 7 rfl rfl rfl rfl rfl rfl (by kernel_rfl) (by kernel_rfl) (by kernel_rfl) (fun _ _ _ _ h => h) rfl rfl ?_
              refine m_take_no (j := 6) (t := 97) 8 rfl rfl rfl rfl rfl rfl (by kernel_rfl) (by kernel_rfl) (by kernel_rfl) (fun _ _ _ _ h => h) rfl rfl ?_
              refine m_take_no (j := 6) (t := 97) 9 rfl rfl rfl rfl rfl rfl (by kernel_rfl) (by kernel_rfl) (by kernel_rfl) (fun _ _ _ _ h => h) rfl rfl ?_
              refine m_take_no (j := 6) (t := 97) 10 rfl rfl rfl rfl rfl rfl (by kernel_rfl) (by kernel_rfl) (by kernel_rfl) (fun _ _ _ _ h => h) rfl rfl ?_
              refine m_take_no (j := 6) (t := 97) 11 rfl rfl rfl rfl rfl rfl (by kernel_rfl) (by kernel_rfl) (by kernel_rfl) (fun _ _ _ _ h => h) rfl rfl ?_
              refine m_take_no (j := 6) (t := 97) 12 rfl rfl rfl rfl rfl rfl (by kernel_rfl) (by kernel_rfl) (by kernel_rfl) (fun _ _ _ _ h => h) rfl rfl ?_
              refine m_take_no (j := 6) (t := 97) 13 rfl rfl rfl rfl rfl rfl (by kernel_rfl) (by kernel_rfl) (by kernel_rfl) (fun _ _ _ _ h => h) rfl rfl ?_
              refine m_take_no (j := 6) (t := 97) 14 rfl rfl rfl rfl rfl rfl (by kernel_rfl) (by kernel_rfl) (by kernel_rfl) (fun _ _ _ _ h => h) rfl rfl ?_
              refine m_take_no (j := 6) (t := 97) 15 rfl rfl rfl rfl rfl rfl (by kernel_rfl) (by kernel_rfl) (by kernel_rfl) (fun _ _ _ _ h => h) rfl rfl ?_
              refine m_take_yes (j := 4) (t := 95) 16 false rfl rfl rfl rfl rfl (by kernel_rfl) (by kernel_rfl) (by kernel_rfl) (fun _ _ _ _ h => h) (v_pick_f rfl rfl) rfl rfl ?_
              refine m_take 17 false rfl rfl (by kernel_rfl) (by kernel_rfl) (by kernel_rfl) (fun _ _ _ _ h => h) (v_pick_f rfl rfl) rfl rfl ?_
              refine m_take 18 false rfl rfl (by kernel_rfl) (by kernel_rfl) (by kernel_rfl) (fun _ _ _ _ h => h) (v_move rfl) rfl rfl ?_
              refine m_take_yes (j := 18) (t := 109) 19 false rfl rfl rfl rfl rfl (by kernel_rfl) (by kernel_rfl) (by kernel_rfl) (fun _ _ _ _ h => h) (v_move rfl) rfl rfl ?_
              refine m_take_yes (j := 18) (t := 109) 20 false rfl rfl rfl rfl rfl (by kernel_rfl) (by kernel_rfl) (by kernel_rfl) (fun _ _ _ _ h => h) (v_not rfl) rfl rfl ?_
              refine m_take_yes (j := 18) (t := 109) 21 false rfl rfl rfl rfl rfl (by kernel_rfl) (by kernel_rfl) (by kernel_rfl) (fun _ _ _ _ h => h) (v_move rfl) rfl rfl ?_
              refine m_split 112 rfl (fun hg112 => ?_) (fun hg112 => ?_)
              · try simp only [decide_eq_true_eq, decide_eq_false_iff_not, Bool.not_eq_true', Bool.not_eq_false', Bool.not_eq_eq_eq_not, Bool.not_true, Bool.not_false, Bool.and_eq_true, Bool.or_eq_true, Bool.or_eq_false_iff, beq_iff_eq, beq_eq_false_iff_ne, ne_eq, Int.not_lt, Int.not_le, Decidable.not_not] at hg112
                refine m_take_yes (j := 21) (t := 112) 22 false rfl rfl rfl rfl rfl (by kernel_rfl) (by kernel_rfl) (by kernel_rfl) (fun _ _ _ _ h => h) (v_move rfl) rfl rfl ?_
                refine m_take_yes (j := 21) (t := 112) 23 false rfl rfl rfl rfl rfl (by kernel_rfl) (by kernel_rfl) (by kernel_rfl) (fun _ _ _ _ h => h) (v_len ty49 rfl (by first | rfl | assumption) (by first | exact List.length_map .. | rfl)) rfl rfl ?_
                refine m_take_yes (j := 21) (t := 112) 24 false rfl rfl rfl rfl rfl (by kernel_rfl) (by kernel_rfl) (by kernel_rfl) (fun _ _ _ _ h => h) (v_neq rfl rfl) rfl rfl ?_
                refine m_take_yes (j := 18) (t := 109) 25 false rfl rfl rfl rfl rfl (by kernel_rfl) (by kernel_rfl) (by kernel_rfl) (fun _ _ _ _ h => h) (v_pick_t rfl rfl) rfl rfl ?_
                refine m_take 26 false rfl rfl (by kernel_rfl) (by kernel_rfl) (by kernel_rfl) (fun _ _ _ _ h => h) (v_pick_f rfl rfl) rfl rfl ?_
                refine m_done (by kernel_rfl) ?_
                refine g_next hK22 ?_
                refine g_keep [0, 5, 6, 7, 8, 117] [3] [3] rfl rfl rfl rfl ?_
                refine g_cond rfl (fun hc117 => ?_) (fun hc117 => ?_)
                · exfalso; (try simp only [decide_eq_true_eq, decide_eq_false_iff_not, Bool.not_eq_true', Bool.not_eq_false', Bool.not_eq_eq_eq_not, Bool.not_true, Bool.not_false, Bool.and_eq_true, Bool.or_eq_true, Bool.or_eq_false_iff, beq_iff_eq, beq_eq_false_iff_ne, ne_eq, Int.not_lt, Int.not_le, Decidable.not_not] at hc117); simp_all
                · try simp only [decide_eq_true_eq, decide_eq_false_iff_not, Bool.not_eq_true', Bool.not_eq_false', Bool.not_eq_eq_eq_not, Bool.not_true, Bool.not_false, Bool.and_eq_true, Bool.or_eq_true, Bool.or_eq_false_iff, beq_iff_eq, beq_eq_false_iff_ne, ne_eq, Int.not_lt, Int.not_le, Decidable.not_not] at hc117
                  refine g_skip ?_
                  refine g_next hK21 ?_
                  refine g_seq (fun K41 hK41 => ?_)
                  refine g_seq (fun K42 hK42 => ?_)
                  refine g_region ?_
                  refine g_step rfl (s_val (v_move rfl) rfl rfl ?_)
                  refine g_step rfl (s_callp rfl rfl rfl (may06_ok b _ _ rfl hsb) ?_)
                  rintro _ rfl
                  refine g_step rfl (s_val (v_not rfl) rfl rfl ?_)
                  refine g_step rfl (s_val (v_move rfl) rfl rfl ?_)
                  refine g_split 121 rfl (fun hg121 => ?_) (fun hg121 => ?_)
                  · try simp only [decide_eq_true_eq, decide_eq_false_iff_not, Bool.not_eq_true', Bool.not_eq_false', Bool.not_eq_eq_eq_not, Bool.not_true, Bool.not_false, Bool.and_eq_true, Bool.or_eq_true, Bool.or_eq_false_iff, beq_iff_eq, beq_eq_false_iff_ne, ne_eq, Int.not_lt, Int.not_le, Decidable.not_not] at hg121
                    refine g_step_no (j := 3) (t := 121) rfl rfl rfl rfl rfl rfl rfl ?_
                    refine g_step_no (j := 3) (t := 121) rfl rfl rfl rfl rfl rfl rfl ?_
                    refine g_step_no (j := 3) (t := 121) rfl rfl rfl rfl rfl rfl rfl ?_
                    refine g_step_no (j := 3) (t := 121) rfl rfl rfl rfl rfl rfl rfl ?_
                    refine g_step rfl (s_val (v_pick_t rfl rfl) rfl rfl ?_)
                    refine g_nil ?_
                    refine g_next hK42 ?_
                    refine g_cond rfl (fun _ => ?_) (fun h => by cases h)
                    refine g_seq (fun K43 hK43 => ?_)
                    refine g_region ?_
                    have hbp : bput b f = ([], 1) := by rw [bput, if_neg (by simp_all)]
                    refine g_step rfl (s_val (v_move rfl) rfl rfl ?_)
                    refine g_step rfl (s_val (v_len ty30 rfl (by first | rfl | assumption) (by first | exact List.length_map .. | rfl)) rfl rfl ?_)
                    refine g_step rfl (s_val (v_eql rfl rfl) rfl rfl ?_)
                    refine g_step rfl (s_val (v_move rfl) rfl rfl ?_)
                    refine g_split 130 rfl (fun hg130 => ?_) (fun hg130 => ?_)
                    · try simp only [decide_eq_true_eq, decide_eq_false_iff_not, Bool.not_eq_true', Bool.not_eq_false', Bool.not_eq_eq_eq_not, Bool.not_true, Bool.not_false, Bool.and_eq_true, Bool.or_eq_true, Bool.or_eq_false_iff, beq_iff_eq, beq_eq_false_iff_ne, ne_eq, Int.not_lt, Int.not_le, Decidable.not_not] at hg130
                      refine g_step_yes (j := 3) (t := 130) rfl rfl rfl rfl (s_val (v_move rfl) rfl rfl ?_)
                      refine g_step_yes (j := 3) (t := 130) rfl rfl rfl rfl (s_val (v_eql rfl rfl) rfl rfl ?_)
                      refine g_step rfl (s_val (v_pick_t rfl rfl) rfl rfl ?_)
                      refine g_step rfl (s_val (v_move rfl) rfl rfl ?_)
                      refine g_split 134 rfl (fun hg134 => ?_) (fun hg134 => ?_)
                      · try simp only [decide_eq_true_eq, decide_eq_false_iff_not, Bool.not_eq_true', Bool.not_eq_false', Bool.not_eq_eq_eq_not, Bool.not_true, Bool.not_false, Bool.and_eq_true, Bool.or_eq_true, Bool.or_eq_false_iff, beq_iff_eq, beq_eq_false_iff_ne, ne_eq, Int.not_lt, Int.not_le, Decidable.not_not] at hg134
                        refine g_step_yes (j := 7) (t := 134) rfl rfl rfl rfl (s_callp rfl rfl rfl (awake06_ok _) ?_)
                        rintro _ rfl
                        refine g_step rfl (s_val (v_pick_t rfl rfl) rfl rfl ?_)
                        refine g_step rfl (s_val (v_assign rfl) rfl rfl ?_)
                        refine g_nil ?_
                        refine g_next hK43 ?_
                        refine g_keep [4] [] [] rfl rfl rfl rfl ?_
                        refine g_ret ?_
                        refine g_then_ret ?_
                        refine g_end1 (.inl rfl) Try.results9 (.tmp rfl) [] (ASub.refl _) (by first | exact AHeap.sub_refl _ | exact AHeap.sub_trans ho9.sub (AHeap.sub_trans ho8.sub ho7.sub) | exact AHeap.sub_trans ho9.sub (AHeap.sub_trans ho8.sub h142.sub)) (fun p hp => by cases hp) ⟨rfl, ?_⟩
                        rfl
                      · exfalso; (try simp only [decide_eq_true_eq, decide_eq_false_iff_not, Bool.not_eq_true', Bool.not_eq_false', Bool.not_eq_eq_eq_not, Bool.not_true, Bool.not_false, Bool.and_eq_true, Bool.or_eq_true, Bool.or_eq_false_iff, beq_iff_eq, beq_eq_false_iff_ne, ne_eq, Int.not_lt, Int.not_le, Decidable.not_not] at hg134); simp [hbp] at hg134
                    · exfalso; (try simp only [decide_eq_true_eq, decide_eq_false_iff_not, Bool.not_eq_true', Bool.not_eq_false', Bool.not_eq_eq_eq_not, Bool.not_true, Bool.not_false, Bool.and_eq_true, Bool.or_eq_true, Bool.or_eq_false_iff, beq_iff_eq, beq_eq_false_iff_ne, ne_eq, Int.not_lt, Int.not_le, Decidable.not_not] at hg130); simp [hbp] at hg130
                  · try simp only [decide_eq_true_eq, decide_eq_false_iff_not, Bool.not_eq_true', Bool.not_eq_false', Bool.not_eq_eq_eq_not, Bool.not_true, Bool.not_false, Bool.and_eq_true, Bool.or_eq_true, Bool.or_eq_false_iff, beq_iff_eq, beq_eq_false_iff_ne, ne_eq, Int.not_lt, Int.not_le, Decidable.not_not] at hg121
                    refine g_step_yes (j := 3) (t := 121) rfl rfl rfl rfl (s_val (by first | exact v_loadl_all ty51 rfl rfl rfl rfl rfl | exact v_loadl_part (cs := [_, _]) ty51 rfl rfl rfl rfl rfl rfl) rfl rfl ?_)
                    refine g_step_yes (j := 3) (t := 121) rfl rfl rfl rfl (s_lit ty30 ty51 rfl rfl rfl rfl rfl rfl rfl ?_)
                    refine g_step_yes (j := 3) (t := 121) rfl rfl rfl rfl (s_callp rfl rfl rfl (may06_ok [f] _ _ rfl hsf) ?_)
                    rintro _ rfl
                    refine g_step_yes (j := 3) (t := 121) rfl rfl rfl rfl (s_val (v_not rfl) rfl rfl ?_)
                    refine g_step rfl (s_val (v_pick_f rfl rfl) rfl rfl ?_)
                    refine g_nil ?_
                    refine g_next hK42 ?_
                    refine g_cond rfl (fun hc126 => ?_) (fun hc126 => ?_)
                    · try simp only [decide_eq_true_eq, decide_eq_false_iff_not, Bool.not_eq_true', Bool.not_eq_false', Bool.not_eq_eq_eq_not, Bool.not_true, Bool.not_false, Bool.and_eq_true, Bool.or_eq_true, Bool.or_eq_false_iff, beq_iff_eq, beq_eq_false_iff_ne, ne_eq, Int.not_lt, Int.not_le, Decidable.not_not] at hc126
                      refine g_seq (fun K44 hK44 => ?_)
                      refine g_region ?_
                      have hbp : bput b f = ([], 1) := by rw [bput, if_neg (by simp_all)]
                      refine g_step rfl (s_val (v_move rfl) rfl rfl ?_)
                      refine g_step rfl (s_val (v_len ty30 rfl (by first | rfl | assumption) (by first | exact List.length_map .. | rfl)) rfl rfl ?_)
                      refine g_step rfl (s_val (v_eql rfl rfl) rfl rfl ?_)
                      refine g_step rfl (s_val (v_move rfl) rfl rfl ?_)
                      refine g_split 130 rfl (fun hg130 => ?_) (fun hg130 => ?_)
                      · try simp only [decide_eq_true_eq, decide_eq_false_iff_not, Bool.not_eq_true', Bool.not_eq_false', Bool.not_eq_eq_eq_not, Bool.not_true, Bool.not_false, Bool.and_eq_true, Bool.or_eq_true, Bool.or_eq_false_iff, beq_iff_eq, beq_eq_false_iff_ne, ne_eq, Int.not_lt, Int.not_le, Decidable.not_not] at hg130
                        refine g_step_yes (j := 3) (t := 130) rfl rfl rfl rfl (s_val (v_move rfl) rfl rfl ?_)
                        refine g_step_yes (j := 3) (t := 130) rfl rfl rfl rfl (s_val (v_eql rfl rfl) rfl rfl ?_)
                        refine g_step rfl (s_val (v_pick_t rfl rfl) rfl rfl ?_)
                        refine g_step rfl (s_val (v_move rfl) rfl rfl ?_)
                        refine g_split 134 rfl (fun hg134 => ?_) (fun hg134 => ?_)
                        · try simp only [decide_eq_true_eq, decide_eq_false_iff_not, Bool.not_eq_true', Bool.not_eq_false', Bool.not_eq_eq_eq_not, Bool.not_true, Bool.not_false, Bool.and_eq_true, Bool.or_eq_true, Bool.or_eq_false_iff, beq_iff_eq, beq_eq_false_iff_ne, ne_eq, Int.not_lt, Int.not_le, Decidable.not_not] at hg134
                          refine g_step_yes (j := 7) (t := 134) rfl rfl rfl rfl (s_callp rfl rfl rfl (awake06_ok _) ?_)
                          rintro _ rfl
                          refine g_step rfl (s_val (v_pick_t rfl rfl) rfl rfl ?_)
                          refine g_step rfl (s_val (v_assign rfl) rfl rfl ?_)
                          refine g_nil ?_
                          refine g_next hK44 ?_
                          refine g_keep [4] [] [] rfl rfl rfl rfl ?_
                          refine g_ret ?_
                          refine g_then_ret ?_
                          refine g_end1 (.inl rfl) Try.results9 (.tmp rfl) [] (ASub.refl _) (by first | exact AHeap.sub_refl _ | exact AHeap.sub_trans ho9.sub (AHeap.sub_trans ho8.sub ho7.sub) | exact AHeap.sub_trans ho9.sub (AHeap.sub_trans ho8.sub h142.sub)) (fun p hp => by cases hp) ⟨rfl, ?_⟩
                          rfl
                        · exfalso; (try simp only [decide_eq_true_eq, decide_eq_false_iff_not, Bool.not_eq_true', Bool.not_eq_false', Bool.not_eq_eq_eq_not, Bool.not_true, Bool.not_false, Bool.and_eq_true, Bool.or_eq_true, Bool.or_eq_false_iff, beq_iff_eq, beq_eq_false_iff_ne, ne_eq, Int.not_lt, Int.not_le, Decidable.not_not] at hg134); simp [hbp] at hg134
                      · exfalso; (try simp only [decide_eq_true_eq, decide_eq_false_iff_not, Bool.not_eq_true', Bool.not_eq_false', Bool.not_eq_eq_eq_not, Bool.not_true, Bool.not_false, Bool.and_eq_true, Bool.or_eq_true, Bool.or_eq_false_iff, beq_iff_eq, beq_eq_false_iff_ne, ne_eq, Int.not_lt, Int.not_le, Decidable.not_not] at hg130); simp [hbp] at hg130
                    · try simp only [decide_eq_true_eq, decide_eq_false_iff_not, Bool.not_eq_true', Bool.not_eq_false', Bool.not_eq_eq_eq_not, Bool.not_true, Bool.not_false, Bool.and_eq_true, Bool.or_eq_true, Bool.or_eq_false_iff, beq_iff_eq, beq_eq_false_iff_ne, ne_eq, Int.not_lt, Int.not_le, Decidable.not_not] at hc126
                      refine g_skip ?_
                      refine g_next hK41 ?_
                      refine g_seq (fun K45 hK45 => ?_)
                      refine g_region ?_
                      have hvb : bagValid b = true ∧ bagValid [f] = true := by simp_all
                      have hw : (((b).filter (fun x => decide (x.tag ≤ f.tag))) ++ [f] ++ ((b).filter (fun x => !decide (x.tag ≤ f.tag)))) = bins b f := (bins_filter hvb.1).symm
                      have hsw := bins_small hvb.1 hvb.2
                      have huw : U8s (bins b f) := by rw [← hw]; intro g hg; simp only [List.mem_append, List.mem_singleton] at hg; rcases hg with (hg | rfl) | hg; exact hub g ((List.mem_filter.1 hg).1); exact huf; exact hub g ((List.mem_filter.1 hg).1)
                      have hlw1 := List.length_filter_le (fun x => decide (x.tag ≤ f.tag)) b
                      have hlw2 := List.length_filter_le (fun x => !decide (x.tag ≤ f.tag)) b
                      refine g_step rfl (s_val (v_move rfl) rfl rfl ?_)
                      refine g_step rfl (s_val (by first | exact v_loadl_all ty51 rfl rfl rfl rfl rfl | exact v_loadl_part (cs := [_, _]) ty51 rfl rfl rfl rfl rfl rfl) rfl rfl ?_)
                      refine g_step rfl (s_lit ty30 ty51 rfl rfl rfl rfl rfl rfl rfl ?_)
                      refine g_step rfl (s_append (l := (((b).filter (fun x => decide (x.tag ≤ f.tag))).map encFd)) (m := ([f].map encFd)) ty30 ty51 rfl rfl ho7 rfl rfl (by refine Even.map _ ?_ _; intro _; rfl) (by intro x hx; obtain ⟨_, _, rfl⟩ := List.mem_map.1 hx; rfl) rfl (by simp; omega) (by simp; omega) ?_)
                      intro av140 G140 h140
                      rw [← List.map_append] at h140
                      refine g_step rfl (s_val (v_move rfl) rfl rfl ?_)
                      refine g_step rfl (s_append (l := ((((b).filter (fun x => decide (x.tag ≤ f.tag))) ++ [f]).map encFd)) (m := (((b).filter (fun x => !decide (x.tag ≤ f.tag))).map encFd)) ty30 ty51 rfl rfl h140 rfl (view_sub h140.sub ho8.view) (by refine Even.map _ ?_ _; intro _; rfl) (by intro x hx; obtain ⟨_, _, rfl⟩ := List.mem_map.1 hx; rfl) rfl (by simp; omega) (by simp; omega) ?_)
                      intro av142 G142 h142
                      rw [← List.map_append, hw] at h142
                      refine g_step rfl (s_val (v_assign rfl) rfl rfl ?_)
                      refine g_nil ?_
                      refine g_next hK45 ?_
                      refine g_seq (fun K46 hK46 => ?_)
                      refine g_seq (fun K47 hK47 => ?_)
                      refine g_region ?_
                      refine g_step rfl (s_val (v_move rfl) rfl rfl ?_)
                      refine g_step rfl (s_callp rfl rfl rfl (may06_ok (bins b f) _ av142 h142.view hsw) ?_)
                      rintro _ rfl
                      refine g_step rfl (s_val (v_not rfl) rfl rfl ?_)
                      refine g_nil ?_
                      refine g_next hK47 ?_
                      refine g_keep [5, 6, 14, 145] [] [] rfl rfl rfl rfl ?_
                      refine g_cond rfl (fun hc145 => ?_) (fun hc145 => ?_)
                      · try simp only [decide_eq_true_eq, decide_eq_false_iff_not, Bool.not_eq_true', Bool.not_eq_false', Bool.not_eq_eq_eq_not, Bool.not_true, Bool.not_false, Bool.and_eq_true, Bool.or_eq_true, Bool.or_eq_false_iff, beq_iff_eq, beq_eq_false_iff_ne, ne_eq, Int.not_lt, Int.not_le, Decidable.not_not] at hc145
                        have hbp : bput b f = ([], 6) := by rw [bput, if_pos (by simp [hvb]), if_neg (by simp_all)]
                        refine g_seq (fun K48 hK48 => ?_)
                        refine g_region ?_
                        refine g_step rfl (s_val (v_move rfl) rfl rfl ?_)
                        refine g_step rfl (s_val (v_len ty30 rfl (by first | rfl | assumption) (by first | exact List.length_map .. | rfl)) rfl rfl ?_)
                        refine g_step rfl (s_val (v_eql rfl rfl) rfl rfl ?_)
                        refine g_step rfl (s_val (v_move rfl) rfl rfl ?_)
                        refine g_split 149 rfl (fun hg149 => ?_) (fun hg149 => ?_)
                        · try simp only [decide_eq_true_eq, decide_eq_false_iff_not, Bool.not_eq_true', Bool.not_eq_false', Bool.not_eq_eq_eq_not, Bool.not_true, Bool.not_false, Bool.and_eq_true, Bool.or_eq_true, Bool.or_eq_false_iff, beq_iff_eq, beq_eq_false_iff_ne, ne_eq, Int.not_lt, Int.not_le, Decidable.not_not] at hg149
                          refine g_step_yes (j := 3) (t := 149) rfl rfl rfl rfl (s_val (v_move rfl) rfl rfl ?_)
                          refine g_step_yes (j := 3) (t := 149) rfl rfl rfl rfl (s_val (v_eql rfl rfl) rfl rfl ?_)
                          refine g_step rfl (s_val (v_pick_t rfl rfl) rfl rfl ?_)
                          refine g_step rfl (s_val (v_move rfl) rfl rfl ?_)
                          refine g_split 153 rfl (fun hg153 => ?_) (fun hg153 => ?_)
                          · try simp only [decide_eq_true_eq, decide_eq_false_iff_not, Bool.not_eq_true', Bool.not_eq_false', Bool.not_eq_eq_eq_not, Bool.not_true, Bool.not_false, Bool.and_eq_true, Bool.or_eq_true, Bool.or_eq_false_iff, beq_iff_eq, beq_eq_false_iff_ne, ne_eq, Int.not_lt, Int.not_le, Decidable.not_not] at hg153
                            refine g_step_yes (j := 7) (t := 153) rfl rfl rfl rfl (s_callp rfl rfl rfl (awake06_ok _) ?_)
                            rintro _ rfl
                            refine g_step rfl (s_val (v_pick_t rfl rfl) rfl rfl ?_)
                            refine g_step rfl (s_val (v_assign rfl) rfl rfl ?_)
                            refine g_nil ?_
                            refine g_next hK48 ?_
                            refine g_ret ?_
                            refine g_then_ret ?_
                            refine g_end1 (.inl rfl) Try.results9 (.tmp rfl) [] (ASub.refl _) (by first | exact AHeap.sub_refl _ | exact AHeap.sub_trans ho9.sub (AHeap.sub_trans ho8.sub ho7.sub) | exact AHeap.sub_trans ho9.sub (AHeap.sub_trans ho8.sub h142.sub)) (fun p hp => by cases hp) ⟨rfl, ?_⟩
                            rfl
                          · exfalso; (try simp only [decide_eq_true_eq, decide_eq_false_iff_not, Bool.not_eq_true', Bool.not_eq_false', Bool.not_eq_eq_eq_not, Bool.not_true, Bool.not_false, Bool.and_eq_true, Bool.or_eq_true, Bool.or_eq_false_iff, beq_iff_eq, beq_eq_false_iff_ne, ne_eq, Int.not_lt, Int.not_le, Decidable.not_not] at hg153); simp [hbp] at hg153
                        · exfalso; (try simp only [decide_eq_true_eq, decide_eq_false_iff_not, Bool.not_eq_true', Bool.not_eq_false', Bool.not_eq_eq_eq_not, Bool.not_true, Bool.not_false, Bool.and_eq_true, Bool.or_eq_true, Bool.or_eq_false_iff, beq_iff_eq, beq_eq_false_iff_ne, ne_eq, Int.not_lt, Int.not_le, Decidable.not_not] at hg149); simp [hbp] at hg149
                      · try simp only [decide_eq_true_eq, decide_eq_false_iff_not, Bool.not_eq_true', Bool.not_eq_false', Bool.not_eq_eq_eq_not, Bool.not_true, Bool.not_false, Bool.and_eq_true, Bool.or_eq_true, Bool.or_eq_false_iff, beq_iff_eq, beq_eq_false_iff_ne, ne_eq, Int.not_lt, Int.not_le, Decidable.not_not] at hc145
                        have hbp : bput b f = (bins b f, 0) := by rw [bput, if_pos (by simp [hvb]), if_pos (by simp_all)]
                        refine g_skip ?_
                        refine g_next hK46 ?_
                        refine g_seq (fun K49 hK49 => ?_)
                        refine g_region ?_
                        refine g_step rfl (s_val (v_move rfl) rfl rfl ?_)
                        refine g_step rfl (s_val (v_eql rfl rfl) rfl rfl ?_)
                        refine g_step rfl (s_val (v_move rfl) rfl rfl ?_)
                        refine g_split 158 rfl (fun hg158 => ?_) (fun hg158 => ?_)
                        · try simp only [decide_eq_true_eq, decide_eq_false_iff_not, Bool.not_eq_true', Bool.not_eq_false', Bool.not_eq_eq_eq_not, Bool.not_true, Bool.not_false, Bool.and_eq_true, Bool.or_eq_true, Bool.or_eq_false_iff, beq_iff_eq, beq_eq_false_iff_ne, ne_eq, Int.not_lt, Int.not_le, Decidable.not_not] at hg158
                          refine g_step_yes (j := 2) (t := 158) rfl rfl rfl rfl (s_val (v_move rfl) rfl rfl ?_)
                          refine g_step_yes (j := 2) (t := 158) rfl rfl rfl rfl (s_val (v_move rfl) rfl rfl ?_)
                          refine g_step_yes (j := 2) (t := 158) rfl rfl rfl rfl (s_callp rfl rfl rfl (alike06_ok (bput b f).1 (bins b f) _ _ av142 rfl h142.view (by rw [hbp]; exact hsw.1) (by rw [hbp]; exact huw) huw) ?_)
                          rintro _ rfl
                          refine g_step rfl (s_val (v_pick_t rfl rfl) rfl rfl ?_)
                          refine g_step rfl (s_val (v_move rfl) rfl rfl ?_)
                          refine g_split 163 rfl (fun hg163 => ?_) (fun hg163 => ?_)
                          · try simp only [decide_eq_true_eq, decide_eq_false_iff_not, Bool.not_eq_true', Bool.not_eq_false', Bool.not_eq_eq_eq_not, Bool.not_true, Bool.not_false, Bool.and_eq_true, Bool.or_eq_true, Bool.or_eq_false_iff, beq_iff_eq, beq_eq_false_iff_ne, ne_eq, Int.not_lt, Int.not_le, Decidable.not_not] at hg163
                            refine g_step_yes (j := 7) (t := 163) rfl rfl rfl rfl (s_callp rfl rfl rfl (awake06_ok _) ?_)
                            rintro _ rfl
                            refine g_step rfl (s_val (v_pick_t rfl rfl) rfl rfl ?_)
                            refine g_step rfl (s_val (v_assign rfl) rfl rfl ?_)
                            refine g_nil ?_
                            refine g_next hK49 ?_
                            refine g_ret ?_
                            refine g_end1 (.inl rfl) Try.results9 (.tmp rfl) [] (ASub.refl _) (by first | exact AHeap.sub_refl _ | exact AHeap.sub_trans ho9.sub (AHeap.sub_trans ho8.sub ho7.sub) | exact AHeap.sub_trans ho9.sub (AHeap.sub_trans ho8.sub h142.sub)) (fun p hp => by cases hp) ⟨rfl, ?_⟩
                            rfl
                          · exfalso; (try simp only [decide_eq_true_eq, decide_eq_false_iff_not, Bool.not_eq_true', Bool.not_eq_false', Bool.not_eq_eq_eq_not, Bool.not_true, Bool.not_false, Bool.and_eq_true, Bool.or_eq_true, Bool.or_eq_false_iff, beq_iff_eq, beq_eq_false_iff_ne, ne_eq, Int.not_lt, Int.not_le, Decidable.not_not] at hg163); simp [hbp] at hg163
                        · exfalso; (try simp only [decide_eq_true_eq, decide_eq_false_iff_not, Bool.not_eq_true', Bool.not_eq_false', Bool.not_eq_eq_eq_not, Bool.not_true, Bool.not_false, Bool.and_eq_true, Bool.or_eq_true, Bool.or_eq_false_iff, beq_iff_eq, beq_eq_false_iff_ne, ne_eq, Int.not_lt, Int.not_le, Decidable.not_not] at hg158); simp [hbp] at hg158
              · try simp only [decide_eq_true_eq, decide_eq_false_iff_not, Bool.not_eq_true', Bool.not_eq_false', Bool.not_eq_eq_eq_not, Bool.not_true, Bool.not_false, Bool.and_eq_true, Bool.or_eq_true, Bool.or_eq_false_iff, beq_iff_eq, beq_eq_false_iff_ne, ne_eq, Int.not_lt, Int.not_le, Decidable.not_not] at hg112
                refine m_take_no (j := 21) (t := 112) 22 rfl rfl rfl rfl rfl rfl (by kernel_rfl) (by kernel_rfl) (by kernel_rfl) (fun _ _ _ _ h => h) rfl rfl ?_
                refine m_take_no (j := 21) (t := 112) 23 rfl rfl rfl rfl rfl rfl (by kernel_rfl) (by kernel_rfl) (by kernel_rfl) (fun _ _ _ _ h => h) rfl rfl ?_
                refine m_take_no (j := 21) (t := 112) 24 rfl rfl rfl rfl rfl rfl (by kernel_rfl) (by kernel_rfl) (by kernel_rfl) (fun _ _ _ _ h => h) rfl rfl ?_
                refine m_take_yes (j := 18) (t := 109) 25 false rfl rfl rfl rfl rfl (by kernel_rfl) (by kernel_rfl) (by kernel_rfl) (fun _ _ _ _ h => h) (v_pick_f rfl rfl) rfl rfl ?_
                refine m_take 26 false rfl rfl (by kernel_rfl) (by kernel_rfl) (by kernel_rfl) (fun _ _ _ _ h => h) (v_pick_f rfl rfl) rfl rfl ?_
                refine m_done (by kernel_rfl) ?_
                refine g_next hK22 ?_
                refine g_keep [0, 5, 6, 7, 8, 117] [3] [3] rfl rfl rfl rfl ?_
                refine g_cond rfl (fun h => by cases h) (fun _ => ?_)
                refine g_skip ?_
                refine g_next hK21 ?_
                refine g_seq (fun K50 hK50 => ?_)
                refine g_seq (fun K51 hK51 => ?_)
                refine g_region ?_
                refine g_step rfl (s_val (v_move rfl) rfl rfl ?_)
                refine g_step rfl (s_callp rfl rfl rfl (may06_ok b _ _ rfl hsb) ?_)
                rintro _ rfl
                refine g_step rfl (s_val (v_not rfl) rfl rfl ?_)
                refine g_step rfl (s_val (v_move rfl) rfl rfl ?_)
                refine g_split 121 rfl (fun hg121 => ?_) (fun hg121 => ?_)
                · try simp only [decide_eq_true_eq, decide_eq_false_iff_not, Bool.not_eq_true', Bool.not_eq_false', Bool.not_eq_eq_eq_not, Bool.not_true, Bool.not_false, Bool.and_eq_true, Bool.or_eq_true, Bool.or_eq_false_iff, beq_iff_eq, beq_eq_false_iff_ne, ne_eq, Int.not_lt, Int.not_le, Decidable.not_not] at hg121
                  refine g_step_no (j := 3) (t := 121) rfl rfl rfl rfl rfl rfl rfl ?_
                  refine g_step_no (j := 3) (t := 121) rfl rfl rfl rfl rfl rfl rfl ?_
                  refine g_step_no (j := 3) (t := 121) rfl rfl rfl rfl rfl rfl rfl ?_
                  refine g_step_no (j := 3) (t := 121) rfl rfl rfl rfl rfl rfl rfl ?_
                  refine g_step rfl (s_val (v_pick_t rfl rfl) rfl rfl ?_)
                  refine g_nil ?_
                  refine g_next hK51 ?_
                  refine g_cond rfl (fun _ => ?_) (fun h => by cases h)
                  refine g_seq (fun K52 hK52 => ?_)
                  refine g_region ?_
                  have hbp : bput b f = ([], 1) := by rw [bput, if_neg (by simp_all)]
                  refine g_step rfl (s_val (v_move rfl) rfl rfl ?_)
                  refine g_step rfl (s_val (v_len ty30 rfl (by first | rfl | assumption) (by first | exact List.length_map .. | rfl)) rfl rfl ?_)
                  refine g_step rfl (s_val (v_eql rfl rfl) rfl rfl ?_)
                  refine g_step rfl (s_val (v_move rfl) rfl rfl ?_)
                  refine g_split 130 rfl (fun hg130 => ?_) (fun hg130 => ?_)
                  · try simp only [decide_eq_true_eq, decide_eq_false_iff_not, Bool.not_eq_true', Bool.not_eq_false', Bool.not_eq_eq_eq_not, Bool.not_true, Bool.not_false, Bool.and_eq_true, Bool.or_eq_true, Bool.or_eq_false_iff, beq_iff_eq, beq_eq_false_iff_ne, ne_eq, Int.not_lt, Int.not_le, Decidable.not_not] at hg130
                    refine g_step_yes (j := 3) (t := 130) rfl rfl rfl rfl (s_val (v_move rfl) rfl rfl ?_)
                    refine g_step_yes (j := 3) (t := 130) rfl rfl rfl rfl (s_val (v_eql rfl rfl) rfl rfl ?_)
                    refine g_step rfl (s_val (v_pick_t rfl rfl) rfl rfl ?_)
                    refine g_step rfl (s_val (v_move rfl) rfl rfl ?_)
                    refine g_split 134 rfl (fun hg134 => ?_) (fun hg134 => ?_)
                    · try simp only [decide_eq_true_eq, decide_eq_false_iff_not, Bool.not_eq_true', Bool.not_eq_false', Bool.not_eq_eq_eq_not, Bool.not_true, Bool.not_false, Bool.and_eq_true, Bool.or_eq_true, Bool.or_eq_false_iff, beq_iff_eq, beq_eq_false_iff_ne, ne_eq, Int.not_lt, Int.not_le, Decidable.not_not] at hg134
                      refine g_step_yes (j := 7) (t := 134) rfl rfl rfl rfl (s_callp rfl rfl rfl (awake06_ok _) ?_)
                      rintro _ rfl
                      refine g_step rfl (s_val (v_pick_t rfl rfl) rfl rfl ?_)
                      refine g_step rfl (s_val (v_assign rfl) rfl rfl ?_)
                      refine g_nil ?_
                      refine g_next hK52 ?_
                      refine g_keep [4] [] [] rfl rfl rfl rfl ?_
                      refine g_ret ?_
                      refine g_then_ret ?_
                      refine g_end1 (.inl rfl) Try.results9 (.tmp rfl) [] (ASub.refl _) (by first | exact AHeap.sub_refl _ | exact AHeap.sub_trans ho9.sub (AHeap.sub_trans ho8.sub ho7.sub) | exact AHeap.sub_trans ho9.sub (AHeap.sub_trans ho8.sub h142.sub)) (fun p hp => by cases hp) ⟨rfl, ?_⟩
                      rfl
                    · exfalso; (try simp only [decide_eq_true_eq, decide_eq_false_iff_not, Bool.not_eq_true', Bool.not_eq_false', Bool.not_eq_eq_eq_not, Bool.not_true, Bool.not_false, Bool.and_eq_true, Bool.or_eq_true, Bool.or_eq_false_iff, beq_iff_eq, beq_eq_false_iff_ne, ne_eq, Int.not_lt, Int.not_le, Decidable.not_not] at hg134); simp [hbp] at hg134
                  · exfalso; (try simp only [decide_eq_true_eq, decide_eq_false_iff_not, Bool.not_eq_true', Bool.not_eq_false', Bool.not_eq_eq_eq_not, Bool.not_true, Bool.not_false, Bool.and_eq_true, Bool.or_eq_true, Bool.or_eq_false_iff, beq_iff_eq, beq_eq_false_iff_ne, ne_eq, Int.not_lt, Int.not_le, Decidable.not_not] at hg130); simp [hbp] at hg130
                · try simp only [decide_eq_true_eq, decide_eq_false_iff_not, Bool.not_eq_true', Bool.not_eq_false', Bool.not_eq_eq_eq_not, Bool.not_true, Bool.not_false, Bool.and_eq_true, Bool.or_eq_true, Bool.or_eq_false_iff, beq_iff_eq, beq_eq_false_iff_ne, ne_eq, Int.not_lt, Int.not_le, Decidable.not_not] at hg121
                  refine g_step_yes (j := 3) (t := 121) rfl rfl rfl rfl (s_val (by first | exact v_loadl_all ty51 rfl rfl rfl rfl rfl | exact v_loadl_part (cs := [_, _]) ty51 rfl rfl rfl rfl rfl rfl) rfl rfl ?_)
                  refine g_step_yes (j := 3) (t := 121) rfl rfl rfl rfl (s_lit ty30 ty51 rfl rfl rfl rfl rfl rfl rfl ?_)
                  refine g_step_yes (j := 3) (t := 121) rfl rfl rfl rfl (s_callp rfl rfl rfl (may06_ok [f] _ _ rfl hsf) ?_)
                  rintro _ rfl
                  refine g_step_yes (j := 3) (t := 121) rfl rfl rfl rfl (s_val (v_not rfl) rfl rfl ?_)
                  refine g_step rfl (s_val (v_pick_f rfl rfl) rfl rfl ?_)
                  refine g_nil ?_
                  refine g_next hK51 ?_
                  refine g_cond rfl (fun hc126 => ?_) (fun hc126 => ?_)
                  · try simp only [decide_eq_true_eq, decide_eq_false_iff_not, Bool.not_eq_true', Bool.not_eq_false', Bool.not_eq_eq_eq_not, Bool.not_true, Bool.not_false, Bool.and_eq_true, Bool.or_eq_true, Bool.or_eq_false_iff, beq_iff_eq, beq_eq_false_iff_ne, ne_eq, Int.not_lt, Int.not_le, Decidable.not_not] at hc126
                    refine g_seq (fun K53 hK53 => ?_)
                    refine g_region ?_
                    have hbp : bput b f = ([], 1) := by rw [bput, if_neg (by simp_all)]
                    refine g_step rfl (s_val (v_move rfl) rfl rfl ?_)
                    refine g_step rfl (s_val (v_len ty30 rfl (by first | rfl | assumption) (by first | exact List.length_map .. | rfl)) rfl rfl ?_)
                    refine g_step rfl (s_val (v_eql rfl rfl) rfl rfl ?_)
                    refine g_step rfl (s_val (v_move rfl) rfl rfl ?_)
                    refine g_split 130 rfl (fun hg130 => ?_) (fun hg130 => ?_)
                    · try simp only [decide_eq_true_eq, decide_eq_false_iff_not, Bool.not_eq_true', Bool.not_eq_false', Bool.not_eq_eq_eq_not, Bool.not_true, Bool.not_false, Bool.and_eq_true, Bool.or_eq_true, Bool.or_eq_false_iff, beq_iff_eq, beq_eq_false_iff_ne, ne_eq, Int.not_lt, Int.not_le, Decidable.not_not] at hg130
                      refine g_step_yes (j := 3) (t := 130) rfl rfl rfl rfl (s_val (v_move rfl) rfl rfl ?_)
                      refine g_step_yes (j := 3) (t := 130) rfl rfl rfl rfl (s_val (v_eql rfl rfl) rfl rfl ?_)
                      refine g_step rfl (s_val (v_pick_t rfl rfl) rfl rfl ?_)
                      refine g_step rfl (s_val (v_move rfl) rfl rfl ?_)
                      refine g_split 134 rfl (fun hg134 => ?_) (fun hg134 => ?_)
                      · try simp only [decide_eq_true_eq, decide_eq_false_iff_not, Bool.not_eq_true', Bool.not_eq_false', Bool.not_eq_eq_eq_not, Bool.not_true, Bool.not_false, Bool.and_eq_true, Bool.or_eq_true, Bool.or_eq_false_iff, beq_iff_eq, beq_eq_false_iff_ne, ne_eq, Int.not_lt, Int.not_le, Decidable.not_not] at hg134
                        refine g_step_yes (j := 7) (t := 134) rfl rfl rfl rfl (s_callp rfl rfl rfl (awake06_ok _) ?_)
                        rintro _ rfl
                        refine g_step rfl (s_val (v_pick_t rfl rfl) rfl rfl ?_)
                        refine g_step rfl (s_val (v_assign rfl) rfl rfl ?_)
                        refine g_nil ?_
                        refine g_next hK53 ?_
                        refine g_keep [4] [] [] rfl rfl rfl rfl ?_
                        refine g_ret ?_
                        refine g_then_ret ?_
                        refine g_end1 (.inl rfl) Try.results9 (.tmp rfl) [] (ASub.refl _) (by first | exact AHeap.sub_refl _ | exact AHeap.sub_trans ho9.sub (AHeap.sub_trans ho8.sub ho7.sub) | exact AHeap.sub_trans ho9.sub (AHeap.sub_trans ho8.sub h142.sub)) (fun p hp => by cases hp) ⟨rfl, ?_⟩
                        rfl
                      · exfalso; (try simp only [decide_eq_true_eq, decide_eq_false_iff_not, Bool.not_eq_true', Bool.not_eq_false', Bool.not_eq_eq_eq_not, Bool.not_true, Bool.not_false, Bool.and_eq_true, Bool.or_eq_true, Bool.or_eq_false_iff, beq_iff_eq, beq_eq_false_iff_ne, ne_eq, Int.not_lt, Int.not_le, Decidable.not_not] at hg134); simp [hbp] at hg134
                    · exfalso; (try simp only [decide_eq_true_eq, decide_eq_false_iff_not, Bool.not_eq_true', Bool.not_eq_false', Bool.not_eq_eq_eq_not, Bool.not_true, Bool.not_false, Bool.and_eq_true, Bool.or_eq_true, Bool.or_eq_false_iff, beq_iff_eq, beq_eq_false_iff_ne, ne_eq, Int.not_lt, Int.not_le, Decidable.not_not] at hg130); simp [hbp] at hg130
                  · try simp only [decide_eq_true_eq, decide_eq_false_iff_not, Bool.not_eq_true', Bool.not_eq_false', Bool.not_eq_eq_eq_not, Bool.not_true, Bool.not_false, Bool.and_eq_true, Bool.or_eq_true, Bool.or_eq_false_iff, beq_iff_eq, beq_eq_false_iff_ne, ne_eq, Int.not_lt, Int.not_le, Decidable.not_not] at hc126
                    refine g_skip ?_
                    refine g_next hK50 ?_
                    refine g_seq (fun K54 hK54 => ?_)
                    refine g_region ?_
                    have hvb : bagValid b = true ∧ bagValid [f] = true := by simp_all
                    have hw : (((b).filter (fun x => decide (x.tag ≤ f.tag))) ++ [f] ++ ((b).filter (fun x => !decide (x.tag ≤ f.tag)))) = bins b f := (bins_filter hvb.1).symm
                    have hsw := bins_small hvb.1 hvb.2
                    have huw : U8s (bins b f) := by rw [← hw]; intro g hg; simp only [List.mem_append, List.mem_singleton] at hg; rcases hg with (hg | rfl) | hg; exact hub g ((List.mem_filter.1 hg).1); exact huf; exact hub g ((List.mem_filter.1 hg).1)
                    have hlw1 := List.length_filter_le (fun x => decide (x.tag ≤ f.tag)) b
                    have hlw2 := List.length_filter_le (fun x => !decide (x.tag ≤ f.tag)) b
                    refine g_step rfl (s_val (v_move rfl) rfl rfl ?_)
                    refine g_step rfl (s_val (by first | exact v_loadl_all ty51 rfl rfl rfl rfl rfl | exact v_loadl_part (cs := [_, _]) ty51 rfl rfl rfl rfl rfl rfl) rfl rfl ?_)
                    refine g_step rfl (s_lit ty30 ty51 rfl rfl rfl rfl rfl rfl rfl ?_)
                    refine g_step rfl (s_append (l := (((b).filter (fun x => decide (x.tag ≤ f.tag))).map encFd)) (m := ([f].map encFd)) ty30 ty51 rfl rfl ho7 rfl rfl (by refine Even.map _ ?_ _; intro _; rfl) (by intro x hx; obtain ⟨_, _, rfl⟩ := List.mem_map.1 hx; rfl) rfl (by simp; omega) (by simp; omega) ?_)
                    intro av140 G140 h140
                    rw [← List.map_append] at h140
                    refine g_step rfl (s_val (v_move rfl) rfl rfl ?_)
                    refine g_step rfl (s_append (l := ((((b).filter (fun x => decide (x.tag ≤ f.tag))) ++ [f]).map encFd)) (m := (((b).filter (fun x => !decide (x.tag ≤ f.tag))).map encFd)) ty30 ty51 rfl rfl h140 rfl (view_sub h140.sub ho8.view) (by refine Even.map _ ?_ _; intro _; rfl) (by intro x hx; obtain ⟨_, _, rfl⟩ := List.mem_map.1 hx; rfl) rfl (by simp; omega) (by simp; omega) ?_)
                    intro av142 G142 h142
                    rw [← List.map_append, hw] at h142
                    refine g_step rfl (s_val (v_assign rfl) rfl rfl ?_)
                    refine g_nil ?_
                    refine g_next hK54 ?_
                    refine g_seq (fun K55 hK55 => ?_)
                    refine g_seq (fun K56 hK56 => ?_)
                    refine g_region ?_
                    refine g_step rfl (s_val (v_move rfl) rfl rfl ?_)
                    refine g_step rfl (s_callp rfl rfl rfl (may06_ok (bins b f) _ av142 h142.view hsw) ?_)
                    rintro _ rfl
                    refine g_step rfl (s_val (v_not rfl) rfl rfl ?_)
                    refine g_nil ?_
                    refine g_next hK56 ?_
                    refine g_keep [5, 6, 14, 145] [] [] rfl rfl rfl rfl ?_
                    refine g_cond rfl (fun hc145 => ?_) (fun hc145 => ?_)
                    · try simp only [decide_eq_true_eq, decide_eq_false_iff_not, Bool.not_eq_true', Bool.not_eq_false', Bool.not_eq_eq_eq_not, Bool.not_true, Bool.not_false, Bool.and_eq_true, Bool.or_eq_true, Bool.or_eq_false_iff, beq_iff_eq, beq_eq_false_iff_ne, ne_eq, Int.not_lt, Int.not_le, Decidable.not_not] at hc145
                      have hbp : bput b f = ([], 6) := by rw [bput, if_pos (by simp [hvb]), if_neg (by simp_all)]
                      refine g_seq (fun K57 hK57 => ?_)
                      refine g_region ?_
                      refine g_step rfl (s_val (v_move rfl) rfl rfl ?_)
                      refine g_step rfl (s_val (v_len ty30 rfl (by first | rfl | assumption) (by first | exact List.length_map .. | rfl)) rfl rfl ?_)
                      refine g_step rfl (s_val (v_eql rfl rfl) rfl rfl ?_)
                      refine g_step rfl (s_val (v_move rfl) rfl rfl ?_)
                      refine g_split 149 rfl (fun hg149 => ?_) (fun hg149 => ?_)
                      · try simp only [decide_eq_true_eq, decide_eq_false_iff_not, Bool.not_eq_true', Bool.not_eq_false', Bool.not_eq_eq_eq_not, Bool.not_true, Bool.not_false, Bool.and_eq_true, Bool.or_eq_true, Bool.or_eq_false_iff, beq_iff_eq, beq_eq_false_iff_ne, ne_eq, Int.not_lt, Int.not_le, Decidable.not_not] at hg149
                        refine g_step_yes (j := 3) (t := 149) rfl rfl rfl rfl (s_val (v_move rfl) rfl rfl ?_)
                        refine g_step_yes (j := 3) (t := 149) rfl rfl rfl rfl (s_val (v_eql rfl rfl) rfl rfl ?_)
                        refine g_step rfl (s_val (v_pick_t rfl rfl) rfl rfl ?_)
                        refine g_step rfl (s_val (v_move rfl) rfl rfl ?_)
                        refine g_split 153 rfl (fun hg153 => ?_) (fun hg153 => ?_)
                        · try simp only [decide_eq_true_eq, decide_eq_false_iff_not, Bool.not_eq_true', Bool.not_eq_false', Bool.not_eq_eq_eq_not, Bool.not_true, Bool.not_false, Bool.and_eq_true, Bool.or_eq_true, Bool.or_eq_false_iff, beq_iff_eq, beq_eq_false_iff_ne, ne_eq, Int.not_lt, Int.not_le, Decidable.not_not] at hg153
                          refine g_step_yes (j := 7) (t := 153) rfl rfl rfl rfl (s_callp rfl rfl rfl (awake06_ok _) ?_)
                          rintro _ rfl
                          refine g_step rfl (s_val (v_pick_t rfl rfl) rfl rfl ?_)
                          refine g_step rfl (s_val (v_assign rfl) rfl rfl ?_)
                          refine g_nil ?_
                          refine g_next hK57 ?_
                          refine g_ret ?_
                          refine g_then_ret ?_
                          refine g_end1 (.inl rfl) Try.results9 (.tmp rfl) [] (ASub.refl _) (by first | exact AHeap.sub_refl _ | exact AHeap.sub_trans ho9.sub (AHeap.sub_trans ho8.sub ho7.sub) | exact AHeap.sub_trans ho9.sub (AHeap.sub_trans ho8.sub h142.sub)) (fun p hp => by cases hp) ⟨rfl, ?_⟩
                          rfl
                        · exfalso; (try simp only [decide_eq_true_eq, decide_eq_false_iff_not, Bool.not_eq_true', Bool.not_eq_false', Bool.not_eq_eq_eq_not, Bool.not_true, Bool.not_false, Bool.and_eq_true, Bool.or_eq_true, Bool.or_eq_false_iff, beq_iff_eq, beq_eq_false_iff_ne, ne_eq, Int.not_lt, Int.not_le, Decidable.not_not] at hg153); simp [hbp] at hg153
                      · exfalso; (try simp only [decide_eq_true_eq, decide_eq_false_iff_not, Bool.not_eq_true', Bool.not_eq_false', Bool.not_eq_eq_eq_not, Bool.not_true, Bool.not_false, Bool.and_eq_true, Bool.or_eq_true, Bool.or_eq_false_iff, beq_iff_eq, beq_eq_false_iff_ne, ne_eq, Int.not_lt, Int.not_le, Decidable.not_not] at hg149); simp [hbp] at hg149
                    · try simp only [decide_eq_true_eq, decide_eq_false_iff_not, Bool.not_eq_true', Bool.not_eq_false', Bool.not_eq_eq_eq_not, Bool.not_true, Bool.not_false, Bool.and_eq_true, Bool.or_eq_true, Bool.or_eq_false_iff, beq_iff_eq, beq_eq_false_iff_ne, ne_eq, Int.not_lt, Int.not_le, Decidable.not_not] at hc145
                      have hbp : bput b f = (bins b f, 0) := by rw [bput, if_pos (by simp [hvb]), if_pos (by simp_all)]
                      refine g_skip ?_
                      refine g_next hK55 ?_
                      refine g_seq (fun K58 hK58 => ?_)
                      refine g_region ?_
                      refine g_step rfl (s_val (v_move rfl) rfl rfl ?_)
                      refine g_step rfl (s_val (v_eql rfl rfl) rfl rfl ?_)
                      refine g_step rfl (s_val (v_move rfl) rfl rfl ?_)
                      refine g_split 158 rfl (fun hg158 => ?_) (fun hg158 => ?_)
                      · try simp only [decide_eq_true_eq, decide_eq_false_iff_not, Bool.not_eq_true', Bool.not_eq_false', Bool.not_eq_eq_eq_not, Bool.not_true, Bool.not_false, Bool.and_eq_true, Bool.or_eq_true, Bool.or_eq_false_iff, beq_iff_eq, beq_eq_false_iff_ne, ne_eq, Int.not_lt, Int.not_le, Decidable.not_not] at hg158
                        refine g_step_yes (j := 2) (t := 158) rfl rfl rfl rfl (s_val (v_move rfl) rfl rfl ?_)
                        refine g_step_yes (j := 2) (t := 158) rfl rfl rfl rfl (s_val (v_move rfl) rfl rfl ?_)
                        refine g_step_yes (j := 2) (t := 158) rfl rfl rfl rfl (s_callp rfl rfl rfl (alike06_ok (bput b f).1 (bins b f) _ _ av142 rfl h142.view (by rw [hbp]; exact hsw.1) (by rw [hbp]; exact huw) huw) ?_)
                        rintro _ rfl
                        refine g_step rfl (s_val (v_pick_t rfl rfl) rfl rfl ?_)
                        refine g_step rfl (s_val (v_move rfl) rfl rfl ?_)
                        refine g_split 163 rfl (fun hg163 => ?_) (fun hg163 => ?_)
                        · try simp only [decide_eq_true_eq, decide_eq_false_iff_not, Bool.not_eq_true', Bool.not_eq_false', Bool.not_eq_eq_eq_not, Bool.not_true, Bool.not_false, Bool.and_eq_true, Bool.or_eq_true, Bool.or_eq_false_iff, beq_iff_eq, beq_eq_false_iff_ne, ne_eq, Int.not_lt, Int.not_le, Decidable.not_not] at hg163
                          refine g_step_yes (j := 7) (t := 163) rfl rfl rfl rfl (s_callp rfl rfl rfl (awake06_ok _) ?_)
                          rintro _ rfl
                          refine g_step rfl (s_val (v_pick_t rfl rfl) rfl rfl ?_)
                          refine g_step rfl (s_val (v_assign rfl) rfl rfl ?_)
                          refine g_nil ?_
                          refine g_next hK58 ?_
                          refine g_ret ?_
                          refine g_end1 (.inl rfl) Try.results9 (.tmp rfl) [] (ASub.refl _) (by first | exact AHeap.sub_refl _ | exact AHeap.sub_trans ho9.sub (AHeap.sub_trans ho8.sub ho7.sub) | exact AHeap.sub_trans ho9.sub (AHeap.sub_trans ho8.sub h142.sub)) (fun p hp => by cases hp) ⟨rfl, ?_⟩
                          rfl
                        · exfalso; (try simp only [decide_eq_true_eq, decide_eq_false_iff_not, Bool.not_eq_true', Bool.not_eq_false', Bool.not_eq_eq_eq_not, Bool.not_true, Bool.not_false, Bool.and_eq_true, Bool.or_eq_true, Bool.or_eq_false_iff, beq_iff_eq, beq_eq_false_iff_ne, ne_eq, Int.not_lt, Int.not_le, Decidable.not_not] at hg163); simp [hbp] at hg163
                      · exfalso; (try simp only [decide_eq_true_eq, decide_eq_false_iff_not, Bool.not_eq_true', Bool.not_eq_false', Bool.not_eq_eq_eq_not, Bool.not_true, Bool.not_false, Bool.and_eq_true, Bool.or_eq_true, Bool.or_eq_false_iff, beq_iff_eq, beq_eq_false_iff_ne, ne_eq, Int.not_lt, Int.not_le, Decidable.not_not] at hg158); simp [hbp] at hg158

end Go.Proofs.Ytngffembdhcijaa

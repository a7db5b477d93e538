import Derived.Test.YtngffembdhcijaaRecLaws
import Derived.Test.YtngffembdhcijaaPRec4
set_option maxHeartbeats 8000000
set_option linter.unusedSimpArgs false
set_option linter.unusedVariables false
set_option maxRecDepth 100000
namespace Go.Proofs.Ytngffembdhcijaa
open Go Go.Proofs.Ytngffembdhcijaa.AM
theorem recLists_ok (l : List Rc) (r : Rc) (id : Int) (hh : ∀ x ∈ l, Held x.bag) (hhr : Held r.bag) (hlen : l.length ≤ 140737488351232) (G : AHeap) : PCalls Try.prog 8 [encRs l, encR r, .int .i64 id] G (fun v => v = .bool true) := by
  refine LCalls.intro 216 fi8 rfl Try.ntmps8 rfl (fun _ h => h.elim) (fun H hH w0 hw0 => ?_)
  refine g_seq (fun K0 hK0 => ?_)
  refine g_region ?_
  refine g_step rfl (s_box rfl rfl rfl rfl ?_)
  refine g_step rfl (s_val (v_assign rfl) rfl rfl ?_)
  refine g_nil ?_
  refine g_next hK0 ?_
  refine g_seq (fun K1 hK1 => ?_)
  refine g_seq (fun K2 hK2 => ?_)
  refine g_region ?_
  refine g_step rfl (s_val (v_move rfl) rfl rfl ?_)
  refine g_step rfl (s_callp rfl rfl rfl (fewL_ok l _ _ rfl hh hlen) ?_)
  rintro _ rfl
  refine g_step rfl (s_val (v_not rfl) rfl rfl ?_)
  refine g_step rfl (s_val (v_move rfl) rfl rfl ?_)
  refine g_split 20 rfl (fun hg20 => ?_) (fun hg20 => ?_)
  · try simp only [decide_eq_true_eq, decide_eq_false_iff_not, Bool.not_eq_true', Bool.not_eq_false', Bool.not_eq_eq_eq_not, Bool.not_true, Bool.not_false, Bool.and_eq_true, Bool.or_eq_true, Bool.or_eq_false_iff, beq_iff_eq, beq_eq_false_iff_ne, ne_eq, Int.not_lt, Int.not_le, Decidable.not_not] at hg20
    refine g_step_no (j := 3) (t := 20) rfl rfl rfl rfl rfl rfl rfl ?_
    refine g_step_no (j := 3) (t := 20) rfl rfl rfl rfl rfl rfl rfl ?_
    refine g_step_no (j := 3) (t := 20) rfl rfl rfl rfl rfl rfl rfl ?_
    refine g_step_no (j := 3) (t := 20) rfl rfl rfl rfl rfl rfl rfl ?_
    refine g_step rfl (s_val (v_pick_t rfl rfl) rfl rfl ?_)
    refine g_nil ?_
    refine g_next hK2 ?_
    refine g_cond rfl (fun _ => ?_) (fun h => by cases h)
    refine g_seq (fun K3 hK3 => ?_)
    refine g_region ?_
    refine g_step rfl (s_callp rfl rfl rfl (awake08_ok _) ?_)
    rintro _ rfl
    refine g_step rfl (s_val (v_assign rfl) rfl rfl ?_)
    refine g_nil ?_
    refine g_next hK3 ?_
    refine g_ret ?_
    refine g_then_ret ?_
    refine g_end1 (.inl rfl) Try.results8 (.tmp rfl) [] (ASub.refl _) (by first | exact AHeap.sub_refl _ | exact hown3.sub) (fun p hp => by cases hp) ⟨rfl, ?_⟩
    rfl
  · try simp only [decide_eq_true_eq, decide_eq_false_iff_not, Bool.not_eq_true', Bool.not_eq_false', Bool.not_eq_eq_eq_not, Bool.not_true, Bool.not_false, Bool.and_eq_true, Bool.or_eq_true, Bool.or_eq_false_iff, beq_iff_eq, beq_eq_false_iff_ne, ne_eq, Int.not_lt, Int.not_le, Decidable.not_not] at hg20
    refine g_step_yes (j := 3) (t := 20) rfl rfl rfl rfl (s_val (by first | exact v_loadl_all ty32 rfl rfl rfl rfl rfl | exact v_loadl_part (cs := [_, _, _, _, _, _, _]) ty32 rfl rfl rfl rfl rfl rfl) rfl rfl ?_)
    refine g_step_yes (j := 3) (t := 20) rfl rfl rfl rfl (s_lit ty34 ty32 rfl rfl rfl rfl rfl rfl rfl ?_)
    refine g_step_yes (j := 3) (t := 20) rfl rfl rfl rfl (s_callp rfl rfl rfl (fewL_ok [r] _ _ rfl (by simp [hhr]) (by simp)) ?_)
    rintro _ rfl
    refine g_step_yes (j := 3) (t := 20) rfl rfl rfl rfl (s_val (v_not rfl) rfl rfl ?_)
    refine g_step rfl (s_val (v_pick_f rfl rfl) rfl rfl ?_)
    refine g_nil ?_
    refine g_next hK2 ?_
    refine g_cond rfl (fun hc25 => ?_) (fun hc25 => ?_)
    · try simp only [decide_eq_true_eq, decide_eq_false_iff_not, Bool.not_eq_true', Bool.not_eq_false', Bool.not_eq_eq_eq_not, Bool.not_true, Bool.not_false, Bool.and_eq_true, Bool.or_eq_true, Bool.or_eq_false_iff, beq_iff_eq, beq_eq_false_iff_ne, ne_eq, Int.not_lt, Int.not_le, Decidable.not_not] at hc25
      refine g_seq (fun K4 hK4 => ?_)
      refine g_region ?_
      refine g_step rfl (s_callp rfl rfl rfl (awake08_ok _) ?_)
      rintro _ rfl
      refine g_step rfl (s_val (v_assign rfl) rfl rfl ?_)
      refine g_nil ?_
      refine g_next hK4 ?_
      refine g_ret ?_
      refine g_then_ret ?_
      refine g_end1 (.inl rfl) Try.results8 (.tmp rfl) [] (ASub.refl _) (by first | exact AHeap.sub_refl _ | exact hown3.sub) (fun p hp => by cases hp) ⟨rfl, ?_⟩
      rfl
    · try simp only [decide_eq_true_eq, decide_eq_false_iff_not, Bool.not_eq_true', Bool.not_eq_false', Bool.not_eq_eq_eq_not, Bool.not_true, Bool.not_false, Bool.and_eq_true, Bool.or_eq_true, Bool.or_eq_false_iff, beq_iff_eq, beq_eq_false_iff_ne, ne_eq, Int.not_lt, Int.not_le, Decidable.not_not] at hc25
      have hf : fewL l = true ∧ few r.bag = true := by refine ⟨by assumption, ?_⟩; simp_all [fewL]
      obtain ⟨hl20, hsl⟩ := fewL_small hf.1
      have hsr := (few_small hf.2).1
      refine g_skip ?_
      refine g_next hK1 ?_
      refine g_seq (fun K5 hK5 => ?_)
      refine g_region ?_
      refine g_step rfl (s_val (v_assign rfl) rfl rfl ?_)
      refine g_nil ?_
      refine g_next hK5 ?_
      refine g_seq (fun K6 hK6 => ?_)
      refine g_region ?_
      refine g_step rfl (s_val (v_assign rfl) rfl rfl ?_)
      refine g_nil ?_
      refine g_next hK6 ?_
      refine g_seq (fun K7 hK7 => ?_)
      refine g_region ?_
      refine g_step rfl (s_val (v_assign rfl) rfl rfl ?_)
      refine g_nil ?_
      refine g_next hK7 ?_
      refine g_seq (fun K8 hK8 => ?_)
      refine g_region ?_
      refine g_step rfl (s_val (v_assign rfl) rfl rfl ?_)
      refine g_nil ?_
      refine g_next hK8 ?_
      refine g_seq (fun K9 hK9 => ?_)
      refine g_seq (fun K10 hK10 => ?_)
      refine g_region ?_
      refine g_step rfl (s_val (v_assign rfl) rfl rfl ?_)
      refine g_nil ?_
      refine g_next hK10 ?_
      refine g_block ?_
      refine g_keep [0, 2, 7, 8, 9, 10, 11] [4] [4] rfl rfl rfl rfl ?_
      refine g_loop (fun n env L B G => ∃ (k : Nat) (w : Bool) (a c d : Int), k ≤ l.length ∧ n = l.length - k ∧ env = [(0, encRs l), (2, .int .i64 id), (7, .bool w), (8, .int .i64 a), (9, .int .i64 c), (10, .int .i64 d), (11, .int .i64 (k : Int))] ∧ L = [(4, 4, 0)] ∧ B = [(4, encR r)] ∧ H = G ∧ w = srt (l.take k) ∧ a = idxZ (fun x => decide (x.id = id)) (l.take k) ∧ c = idxZ (fun x => decide (x.id = r.id)) (l.take k) ∧ d = idxZ (fun x => decide (r.id < x.id)) (l.take k)) (l.length) ⟨0, true, -1, -1, -1, Nat.zero_le _, rfl, rfl, rfl, rfl, rfl, ⟨rfl, rfl, rfl, rfl⟩⟩ (fun n env L B G hI => ?_)
      obtain ⟨k, w, a, c, d, hk, rfl, rfl, rfl, rfl, rfl, hw, ha, hcc, hd⟩ := hI
      refine g_seq (fun K11 hK11 => ?_)
      refine g_seq (fun K12 hK12 => ?_)
      refine g_region ?_
      refine g_step rfl (s_val (v_move rfl) rfl rfl ?_)
      refine g_step rfl (s_val (v_move rfl) rfl rfl ?_)
      refine g_step rfl (s_val (v_len ty34 rfl (by first | rfl | assumption) (by first | exact List.length_map .. | rfl)) rfl rfl ?_)
      refine g_step rfl (s_val (v_lss rfl rfl) rfl rfl ?_)
      refine g_nil ?_
      refine g_next hK12 ?_
      refine g_cond rfl (fun hc30 => ?_) (fun hc30 => ?_)
      · try simp only [decide_eq_true_eq, decide_eq_false_iff_not, Bool.not_eq_true', Bool.not_eq_false', Bool.not_eq_eq_eq_not, Bool.not_true, Bool.not_false, Bool.and_eq_true, Bool.or_eq_true, Bool.or_eq_false_iff, beq_iff_eq, beq_eq_false_iff_ne, ne_eq, Int.not_lt, Int.not_le, Decidable.not_not] at hc30
        obtain ⟨x, hx⟩ := get_some (l := l) (k := k) (by omega)
        have hs := srt_snoc hx
        have hl0 : k = 0 → lastId (-1) (l.take k) = -1 := by rintro rfl; rfl
        have hly : ∀ y, 0 < k → l[k - 1]? = some y → lastId (-1) (l.take k) = y.id := fun y h0 hy => by have h9 := lastId_take l (-1) (k - 1) y hy; rwa [show k - 1 + 1 = k by omega] at h9
        have hrv : recValid x = true → 0 ≤ x.id := recValid_id
        have hsx := hsl x (mem_get hx)
        refine g_skip ?_
        refine g_next hK11 ?_
        refine g_cut (fun env L B G => ∃ (w' : Bool) (a' c' d' : Int), env = [(0, encRs l), (2, .int .i64 id), (7, .bool w'), (8, .int .i64 a'), (9, .int .i64 c'), (10, .int .i64 d'), (11, .int .i64 (k : Int))] ∧ L = [(4, 4, 0)] ∧ B = [(4, encR r)] ∧ H = G ∧ w' = srt (l.take (k + 1)) ∧ a' = idxZ (fun x => decide (x.id = id)) (l.take (k + 1)) ∧ c' = idxZ (fun x => decide (x.id = r.id)) (l.take (k + 1)) ∧ d' = idxZ (fun x => decide (r.id < x.id)) (l.take (k + 1))) ?_ (fun env L B G hI => ?_)
        · skip
          refine g_block ?_
          refine g_cut (fun env L B G => ∃ (w' : Bool), env = [(0, encRs l), (2, .int .i64 id), (7, .bool w'), (8, .int .i64 a), (9, .int .i64 c), (10, .int .i64 d), (11, .int .i64 (k : Int))] ∧ L = [(4, 4, 0)] ∧ B = [(4, encR r)] ∧ H = G ∧ w' = srt (l.take (k + 1))) ?_ (fun env L B G hI => ?_)
          · skip
            refine g_seq (fun K13 hK13 => ?_)
            refine g_draw (n := 24) (fun j => !([] : List Nat).contains j) rfl rfl ?_
            refine m_take 0 false rfl rfl (by kernel_rfl) (by kernel_rfl) (by kernel_rfl) (fun _ _ _ _ h => h) (v_move rfl) rfl rfl ?_
            refine m_take 1 false rfl rfl (by kernel_rfl) (by kernel_rfl) (by kernel_rfl) (fun _ _ _ _ h => h) (v_move rfl) rfl rfl ?_
            refine m_take 2 false rfl rfl (by kernel_rfl) (by kernel_rfl) (by kernel_rfl) (fun _ _ _ _ h => h) (v_indexAddr ty34 ty32 rfl rfl (by first | rfl | assumption) (by first | rfl | exact (rfl : (0 : Int) = ((0 : Nat) : Int)) | exact (Int.toNat_of_nonneg (by omega)).symm) (by first | assumption | exact map_get (by assumption) | rfl) rfl) rfl rfl ?_
            refine m_take 3 true rfl rfl (by kernel_rfl) (by kernel_rfl) (by kernel_rfl) (fun _ _ _ _ h => h) (by first | exact v_load_elt ty32 rfl rfl (by first | rfl | assumption) (by first | assumption | exact map_get (by assumption) | rfl) rfl rfl | exact v_load_box_all ty32 rfl rfl (by assumption) rfl rfl | exact v_load_part (cs := [_, _, _, _, _, _, _]) ty32 rfl rfl (by first | rfl | assumption) (by first | assumption | exact map_get (by assumption) | rfl) rfl rfl rfl | exact v_load_box_part (cs := [_, _, _, _, _, _, _]) ty32 rfl rfl (by assumption) rfl rfl rfl) rfl rfl ?_
            refine m_one 4 (by kernel_rfl) rfl rfl ?_
            refine sm_callp rfl rfl rfl (may08_ok x _ hsx) ?_
            rintro _ rfl
            refine m_take 5 false rfl rfl (by kernel_rfl) (by kernel_rfl) (by kernel_rfl) (fun _ _ _ _ h => h) (v_not rfl) rfl rfl ?_
            refine m_take 6 false rfl rfl (by kernel_rfl) (by kernel_rfl) (by kernel_rfl) (fun _ _ _ _ h => h) (v_move rfl) rfl rfl ?_
            refine m_split 39 rfl (fun hg39 => ?_) (fun hg39 => ?_)
            · try simp only [decide_eq_true_eq, decide_eq_false_iff_not, Bool.not_eq_true', Bool.not_eq_false', Bool.not_eq_eq_eq_not, Bool.not_true, Bool.not_false, Bool.and_eq_true, Bool.or_eq_true, Bool.or_eq_false_iff, beq_iff_eq, beq_eq_false_iff_ne, ne_eq, Int.not_lt, Int.not_le, Decidable.not_not] at hg39
              refine m_take_no (j := 6) (t := 39) 7 rfl rfl rfl rfl rfl rfl (by kernel_rfl) (by kernel_rfl) (by kernel_rfl) (fun _ _ _ _ h => h) rfl rfl ?_
              refine m_take_no (j := 6) (t := 39) 8 rfl rfl rfl rfl rfl rfl (by kernel_rfl) (by kernel_rfl) (by kernel_rfl) (fun _ _ _ _ h => h) rfl rfl ?_
              refine m_take_no (j := 6) (t := 39) 9 rfl rfl rfl rfl rfl rfl (by kernel_rfl) (by kernel_rfl) (by kernel_rfl) (fun _ _ _ _ h => h) rfl rfl ?_
              refine m_take_und (j := 9) (t := 42) 10 rfl rfl rfl rfl rfl (by kernel_rfl) (by kernel_rfl) (by kernel_rfl) (fun _ _ _ _ h => h) rfl rfl ?_
              refine m_take_und (j := 9) (t := 42) 11 rfl rfl rfl rfl rfl (by kernel_rfl) (by kernel_rfl) (by kernel_rfl) (fun _ _ _ _ h => h) rfl rfl ?_
              refine m_take_und (j := 9) (t := 42) 12 rfl rfl rfl rfl rfl (by kernel_rfl) (by kernel_rfl) (by kernel_rfl) (fun _ _ _ _ h => h) rfl rfl ?_
              refine m_take_und (j := 9) (t := 42) 13 rfl rfl rfl rfl rfl (by kernel_rfl) (by kernel_rfl) (by kernel_rfl) (fun _ _ _ _ h => h) rfl rfl ?_
              refine m_take_und (j := 9) (t := 42) 14 rfl rfl rfl rfl rfl (by kernel_rfl) (by kernel_rfl) (by kernel_rfl) (fun _ _ _ _ h => h) rfl rfl ?_
              refine m_take_und (j := 9) (t := 42) 15 rfl rfl rfl rfl rfl (by kernel_rfl) (by kernel_rfl) (by kernel_rfl) (fun _ _ _ _ h => h) rfl rfl ?_
              refine m_take_und (j := 9) (t := 42) 16 rfl rfl rfl rfl rfl (by kernel_rfl) (by kernel_rfl) (by kernel_rfl) (fun _ _ _ _ h => h) rfl rfl ?_
              refine m_take_und (j := 9) (t := 42) 17 rfl rfl rfl rfl rfl (by kernel_rfl) (by kernel_rfl) (by kernel_rfl) (fun _ _ _ _ h => h) rfl rfl ?_
              refine m_take_und (j := 9) (t := 42) 18 rfl rfl rfl rfl rfl (by kernel_rfl) (by kernel_rfl) (by kernel_rfl) (fun _ _ _ _ h => h) rfl rfl ?_
              refine m_take_und (j := 9) (t := 42) 19 rfl rfl rfl rfl rfl (by kernel_rfl) (by kernel_rfl) (by kernel_rfl) (fun _ _ _ _ h => h) rfl rfl ?_
              refine m_take_und (j := 9) (t := 42) 20 rfl rfl rfl rfl rfl (by kernel_rfl) (by kernel_rfl) (by kernel_rfl) (fun _ _ _ _ h => h) rfl rfl ?_
              refine m_take_und (j := 9) (t := 42) 21 rfl rfl rfl rfl rfl (by kernel_rfl) (by kernel_rfl) (by kernel_rfl) (fun _ _ _ _ h => h) rfl rfl ?_
              refine m_take_no (j := 6) (t := 39) 22 rfl rfl rfl rfl rfl rfl (by kernel_rfl) (by kernel_rfl) (by kernel_rfl) (fun _ _ _ _ h => h) rfl rfl ?_
              refine m_take 23 false rfl rfl (by kernel_rfl) (by kernel_rfl) (by kernel_rfl) (fun _ _ _ _ h => h) (v_pick_t rfl rfl) rfl rfl ?_
              refine m_done (by kernel_rfl) ?_
              refine g_next hK13 ?_
              refine g_keep [0, 2, 7, 8, 9, 10, 11, 40, 41, 42, 43, 44, 45, 46, 47, 48, 49, 50, 51, 52, 53, 54, 55, 56] [4] [4] rfl rfl rfl rfl ?_
              refine g_cond rfl (fun _ => ?_) (fun h => by cases h)
              refine g_region ?_
              refine g_step rfl (s_val (v_assign rfl) rfl rfl ?_)
              refine g_nil ?_
              refine g_keep [0, 2, 7, 8, 9, 10, 11] [4] [4] rfl rfl rfl rfl ?_
              exact g_has ⟨_, rfl, rfl, rfl, rfl, by rw [hs, ← hw]; first | (rw [hg39]; simp; done) | (rw [hg39, decide_eq_true (by first | (have h4 := hly _ (by omega) (by assumption); omega) | (have h5 := hl0 (by omega); have h6 := hrv hg39; omega))]; simp; done) | (rw [hg39, decide_eq_false (by have h4 := hly _ (by omega) (by assumption); omega)]; simp; done)⟩
            · try simp only [decide_eq_true_eq, decide_eq_false_iff_not, Bool.not_eq_true', Bool.not_eq_false', Bool.not_eq_eq_eq_not, Bool.not_true, Bool.not_false, Bool.and_eq_true, Bool.or_eq_true, Bool.or_eq_false_iff, beq_iff_eq, beq_eq_false_iff_ne, ne_eq, Int.not_lt, Int.not_le, Decidable.not_not] at hg39
              refine m_take_yes (j := 6) (t := 39) 7 false rfl rfl rfl rfl rfl (by kernel_rfl) (by kernel_rfl) (by kernel_rfl) (fun _ _ _ _ h => h) (v_move rfl) rfl rfl ?_
              refine m_take_yes (j := 6) (t := 39) 8 false rfl rfl rfl rfl rfl (by kernel_rfl) (by kernel_rfl) (by kernel_rfl) (fun _ _ _ _ h => h) (v_gtr rfl rfl) rfl rfl ?_
              refine m_take_yes (j := 6) (t := 39) 9 false rfl rfl rfl rfl rfl (by kernel_rfl) (by kernel_rfl) (by kernel_rfl) (fun _ _ _ _ h => h) (v_move rfl) rfl rfl ?_
              refine m_split 42 rfl (fun hg42 => ?_) (fun hg42 => ?_)
              · try simp only [decide_eq_true_eq, decide_eq_false_iff_not, Bool.not_eq_true', Bool.not_eq_false', Bool.not_eq_eq_eq_not, Bool.not_true, Bool.not_false, Bool.and_eq_true, Bool.or_eq_true, Bool.or_eq_false_iff, beq_iff_eq, beq_eq_false_iff_ne, ne_eq, Int.not_lt, Int.not_le, Decidable.not_not] at hg42
                obtain ⟨y, hy⟩ := get_some (l := l) (k := k - 1) (by omega)
                refine m_take_yes (j := 9) (t := 42) 10 false rfl rfl rfl rfl rfl (by kernel_rfl) (by kernel_rfl) (by kernel_rfl) (fun _ _ _ _ h => h) (v_move rfl) rfl rfl ?_
                refine m_take_yes (j := 9) (t := 42) 11 false rfl rfl rfl rfl rfl (by kernel_rfl) (by kernel_rfl) (by kernel_rfl) (fun _ _ _ _ h => h) (v_move rfl) rfl rfl ?_
                refine m_take_yes (j := 9) (t := 42) 12 false rfl rfl rfl rfl rfl (by kernel_rfl) (by kernel_rfl) (by kernel_rfl) (fun _ _ _ _ h => h) (v_indexAddr ty34 ty32 rfl rfl (by first | rfl | assumption) (by first | rfl | exact (rfl : (0 : Int) = ((0 : Nat) : Int)) | exact (Int.toNat_of_nonneg (by omega)).symm) (by first | assumption | exact map_get (by assumption) | rfl) rfl) rfl rfl ?_
                refine m_take_yes (j := 9) (t := 42) 13 false rfl rfl rfl rfl rfl (by kernel_rfl) (by kernel_rfl) (by kernel_rfl) (fun _ _ _ _ h => h) (by first | exact v_fieldAddr ty32 fo32_0 ty3 rfl | exact v_fieldAddr_box ty32 fo32_0 ty3 rfl) rfl rfl ?_
                refine m_take_yes (j := 9) (t := 42) 14 true rfl rfl rfl rfl rfl (by kernel_rfl) (by kernel_rfl) (by kernel_rfl) (fun _ _ _ _ h => h) (by first | exact v_load ty3 rfl rfl (by first | rfl | assumption) (by first | assumption | exact map_get (by assumption) | rfl) rfl | exact v_load_box ty3 rfl rfl (by assumption) rfl) rfl rfl ?_
                refine m_take_yes (j := 9) (t := 42) 15 false rfl rfl rfl rfl rfl (by kernel_rfl) (by kernel_rfl) (by kernel_rfl) (fun _ _ _ _ h => h) (v_move rfl) rfl rfl ?_
                refine m_take_yes (j := 9) (t := 42) 16 false rfl rfl rfl rfl rfl (by kernel_rfl) (by kernel_rfl) (by kernel_rfl) (fun _ _ _ _ h => h) (v_move rfl) rfl rfl ?_
                refine m_take_yes (j := 9) (t := 42) 17 false rfl rfl rfl rfl rfl (by kernel_rfl) (by kernel_rfl) (by kernel_rfl) (fun _ _ _ _ h => h) (v_sub_ rfl rfl (by omega)) rfl rfl ?_
                refine m_take_yes (j := 9) (t := 42) 18 false rfl rfl rfl rfl rfl (by kernel_rfl) (by kernel_rfl) (by kernel_rfl) (fun _ _ _ _ h => h) (v_indexAddr ty34 ty32 rfl rfl (by first | rfl | assumption) (show ((k : Int) - 1) = ((k - 1 : Nat) : Int) by omega) (map_get hy) rfl) rfl rfl ?_
                refine m_take_yes (j := 9) (t := 42) 19 false rfl rfl rfl rfl rfl (by kernel_rfl) (by kernel_rfl) (by kernel_rfl) (fun _ _ _ _ h => h) (by first | exact v_fieldAddr ty32 fo32_0 ty3 rfl | exact v_fieldAddr_box ty32 fo32_0 ty3 rfl) rfl rfl ?_
                refine m_take_yes (j := 9) (t := 42) 20 true rfl rfl rfl rfl rfl (by kernel_rfl) (by kernel_rfl) (by kernel_rfl) (fun _ _ _ _ h => h) (by first | exact v_load ty3 rfl rfl (by first | rfl | assumption) (by first | assumption | exact map_get (by assumption) | rfl) rfl | exact v_load_box ty3 rfl rfl (by assumption) rfl) rfl rfl ?_
                refine m_take_yes (j := 9) (t := 42) 21 false rfl rfl rfl rfl rfl (by kernel_rfl) (by kernel_rfl) (by kernel_rfl) (fun _ _ _ _ h => h) (v_leq rfl rfl) rfl rfl ?_
                refine m_take_yes (j := 6) (t := 39) 22 false rfl rfl rfl rfl rfl (by kernel_rfl) (by kernel_rfl) (by kernel_rfl) (fun _ _ _ _ h => h) (v_pick_t rfl rfl) rfl rfl ?_
                refine m_take 23 false rfl rfl (by kernel_rfl) (by kernel_rfl) (by kernel_rfl) (fun _ _ _ _ h => h) (v_pick_f rfl rfl) rfl rfl ?_
                refine m_done (by kernel_rfl) ?_
                refine g_next hK13 ?_
                refine g_keep [0, 2, 7, 8, 9, 10, 11, 40, 41, 42, 43, 44, 45, 46, 47, 48, 49, 50, 51, 52, 53, 54, 55, 56] [4] [4] rfl rfl rfl rfl ?_
                refine g_cond rfl (fun hc56 => ?_) (fun hc56 => ?_)
                · try simp only [decide_eq_true_eq, decide_eq_false_iff_not, Bool.not_eq_true', Bool.not_eq_false', Bool.not_eq_eq_eq_not, Bool.not_true, Bool.not_false, Bool.and_eq_true, Bool.or_eq_true, Bool.or_eq_false_iff, beq_iff_eq, beq_eq_false_iff_ne, ne_eq, Int.not_lt, Int.not_le, Decidable.not_not] at hc56
                  refine g_region ?_
                  refine g_step rfl (s_val (v_assign rfl) rfl rfl ?_)
                  refine g_nil ?_
                  refine g_keep [0, 2, 7, 8, 9, 10, 11] [4] [4] rfl rfl rfl rfl ?_
                  exact g_has ⟨_, rfl, rfl, rfl, rfl, by rw [hs, ← hw]; first | (rw [hg39]; simp; done) | (rw [hg39, decide_eq_true (by first | (have h4 := hly _ (by omega) (by assumption); omega) | (have h5 := hl0 (by omega); have h6 := hrv hg39; omega))]; simp; done) | (rw [hg39, decide_eq_false (by have h4 := hly _ (by omega) (by assumption); omega)]; simp; done)⟩
                · try simp only [decide_eq_true_eq, decide_eq_false_iff_not, Bool.not_eq_true', Bool.not_eq_false', Bool.not_eq_eq_eq_not, Bool.not_true, Bool.not_false, Bool.and_eq_true, Bool.or_eq_true, Bool.or_eq_false_iff, beq_iff_eq, beq_eq_false_iff_ne, ne_eq, Int.not_lt, Int.not_le, Decidable.not_not] at hc56
                  refine g_skip ?_
                  refine g_keep [0, 2, 7, 8, 9, 10, 11] [4] [4] rfl rfl rfl rfl ?_
                  exact g_has ⟨_, rfl, rfl, rfl, rfl, by rw [hs, ← hw]; first | (rw [hg39]; simp; done) | (rw [hg39, decide_eq_true (by first | (have h4 := hly _ (by omega) (by assumption); omega) | (have h5 := hl0 (by omega); have h6 := hrv hg39; omega))]; simp; done) | (rw [hg39, decide_eq_false (by have h4 := hly _ (by omega) (by assumption); omega)]; simp; done)⟩
              · try simp only [decide_eq_true_eq, decide_eq_false_iff_not, Bool.not_eq_true', Bool.not_eq_false', Bool.not_eq_eq_eq_not, Bool.not_true, Bool.not_false, Bool.and_eq_true, Bool.or_eq_true, Bool.or_eq_false_iff, beq_iff_eq, beq_eq_false_iff_ne, ne_eq, Int.not_lt, Int.not_le, Decidable.not_not] at hg42
                refine m_take_no (j := 9) (t := 42) 10 rfl rfl rfl rfl rfl rfl (by kernel_rfl) (by kernel_rfl) (by kernel_rfl) (fun _ _ _ _ h => h) rfl rfl ?_
                refine m_take_no (j := 9) (t := 42) 11 rfl rfl rfl rfl rfl rfl (by kernel_rfl) (by kernel_rfl) (by kernel_rfl) (fun _ _ _ _ h => h) rfl rfl ?_
                refine m_take_no (j := 9) (t := 42) 12 rfl rfl rfl rfl rfl rfl (by kernel_rfl) (by kernel_rfl) (by kernel_rfl) (fun _ _ _ _ h => h) rfl rfl ?_
                refine m_take_no (j := 9) (t := 42) 13 rfl rfl rfl rfl rfl rfl (by kernel_rfl) (by kernel_rfl) (by kernel_rfl) (fun _ _ _ _ h => h) rfl rfl ?_
                refine m_take_no (j := 9) (t := 42) 14 rfl rfl rfl rfl rfl rfl (by kernel_rfl) (by kernel_rfl) (by kernel_rfl) (fun _ _ _ _ h => h) rfl rfl ?_
                refine m_take_no (j := 9) (t := 42) 15 rfl rfl rfl rfl rfl rfl (by kernel_rfl) (by kernel_rfl) (by kernel_rfl) (fun _ _ _ _ h => h) rfl rfl ?_
                refine m_take_no (j := 9) (t := 42) 16 rfl rfl rfl rfl rfl rfl (by kernel_rfl) (by kernel_rfl) (by kernel_rfl) (fun _ _ _ _ h => h) rfl rfl ?_
                refine m_take_no (j := 9) (t := 42) 17 rfl rfl rfl rfl rfl rfl (by kernel_rfl) (by kernel_rfl) (by kernel_rfl) (fun _ _ _ _ h => h) rfl rfl ?_
                refine m_take_no (j := 9) (t := 42) 18 rfl rfl rfl rfl rfl rfl (by kernel_rfl) (by kernel_rfl) (by kernel_rfl) (fun _ _ _ _ h => h) rfl rfl ?_
                refine m_take_no (j := 9) (t := 42) 19 rfl rfl rfl rfl rfl rfl (by kernel_rfl) (by kernel_rfl) (by kernel_rfl) (fun _ _ _ _ h => h) rfl rfl ?_
                refine m_take_no (j := 9) (t := 42) 20 rfl rfl rfl rfl rfl rfl (by kernel_rfl) (by kernel_rfl) (by kernel_rfl) (fun _ _ _ _ h => h) rfl rfl ?_
                refine m_take_no (j := 9) (t := 42) 21 rfl rfl rfl rfl rfl rfl (by kernel_rfl) (by kernel_rfl) (by kernel_rfl) (fun _ _ _ _ h => h) rfl rfl ?_
                refine m_take_yes (j := 6) (t := 39) 22 false rfl rfl rfl rfl rfl (by kernel_rfl) (by kernel_rfl) (by kernel_rfl) (fun _ _ _ _ h => h) (v_pick_f rfl rfl) rfl rfl ?_
                refine m_take 23 false rfl rfl (by kernel_rfl) (by kernel_rfl) (by kernel_rfl) (fun _ _ _ _ h => h) (v_pick_f rfl rfl) rfl rfl ?_
                refine m_done (by kernel_rfl) ?_
                refine g_next hK13 ?_
                refine g_keep [0, 2, 7, 8, 9, 10, 11, 40, 41, 42, 43, 44, 45, 46, 47, 48, 49, 50, 51, 52, 53, 54, 55, 56] [4] [4] rfl rfl rfl rfl ?_
                refine g_cond rfl (fun h => by cases h) (fun _ => ?_)
                refine g_skip ?_
                refine g_keep [0, 2, 7, 8, 9, 10, 11] [4] [4] rfl rfl rfl rfl ?_
                exact g_has ⟨_, rfl, rfl, rfl, rfl, by rw [hs, ← hw]; first | (rw [hg39]; simp; done) | (rw [hg39, decide_eq_true (by first | (have h4 := hly _ (by omega) (by assumption); omega) | (have h5 := hl0 (by omega); have h6 := hrv hg39; omega))]; simp; done) | (rw [hg39, decide_eq_false (by have h4 := hly _ (by omega) (by assumption); omega)]; simp; done)⟩
          · skip
            obtain ⟨w', rfl, rfl, rfl, rfl, hw'⟩ := hI
            refine g_cut (fun env L B G => ∃ (w' : Bool) (a' : Int), env = [(0, encRs l), (2, .int .i64 id), (7, .bool w'), (8, .int .i64 a'), (9, .int .i64 c), (10, .int .i64 d), (11, .int .i64 (k : Int))] ∧ L = [(4, 4, 0)] ∧ B = [(4, encR r)] ∧ H = G ∧ w' = srt (l.take (k + 1)) ∧ a' = idxZ (fun x => decide (x.id = id)) (l.take (k + 1))) ?_ (fun env L B G hI => ?_)
            · skip
              refine g_seq (fun K14 hK14 => ?_)
              refine g_region ?_
              refine g_step rfl (s_val (v_move rfl) rfl rfl ?_)
              refine g_step rfl (s_val (v_move rfl) rfl rfl ?_)
              refine g_step rfl (s_val (v_indexAddr ty34 ty32 rfl rfl (by first | rfl | assumption) (by first | rfl | exact (rfl : (0 : Int) = ((0 : Nat) : Int)) | exact (Int.toNat_of_nonneg (by omega)).symm) (by first | assumption | exact map_get (by assumption) | rfl) rfl) rfl rfl ?_)
              refine g_step rfl (s_val (by first | exact v_fieldAddr ty32 fo32_0 ty3 rfl | exact v_fieldAddr_box ty32 fo32_0 ty3 rfl) rfl rfl ?_)
              refine g_step rfl (s_val (by first | exact v_load ty3 rfl rfl (by first | rfl | assumption) (by first | assumption | exact map_get (by assumption) | rfl) rfl | exact v_load_box ty3 rfl rfl (by assumption) rfl) rfl rfl ?_)
              refine g_step rfl (s_val (v_move rfl) rfl rfl ?_)
              refine g_step rfl (s_val (v_eql rfl rfl) rfl rfl ?_)
              refine g_step rfl (s_val (v_move rfl) rfl rfl ?_)
              refine g_split 64 rfl (fun hg64 => ?_) (fun hg64 => ?_)
              · try simp only [decide_eq_true_eq, decide_eq_false_iff_not, Bool.not_eq_true', Bool.not_eq_false', Bool.not_eq_eq_eq_not, Bool.not_true, Bool.not_false, Bool.and_eq_true, Bool.or_eq_true, Bool.or_eq_false_iff, beq_iff_eq, beq_eq_false_iff_ne, ne_eq, Int.not_lt, Int.not_le, Decidable.not_not] at hg64
                refine g_step_yes (j := 7) (t := 64) rfl rfl rfl rfl (s_val (v_move rfl) rfl rfl ?_)
                refine g_step_yes (j := 7) (t := 64) rfl rfl rfl rfl (s_val (v_lss rfl rfl) rfl rfl ?_)
                refine g_step rfl (s_val (v_pick_t rfl rfl) rfl rfl ?_)
                refine g_nil ?_
                refine g_next hK14 ?_
                refine g_cond rfl (fun hc67 => ?_) (fun hc67 => ?_)
                · try simp only [decide_eq_true_eq, decide_eq_false_iff_not, Bool.not_eq_true', Bool.not_eq_false', Bool.not_eq_eq_eq_not, Bool.not_true, Bool.not_false, Bool.and_eq_true, Bool.or_eq_true, Bool.or_eq_false_iff, beq_iff_eq, beq_eq_false_iff_ne, ne_eq, Int.not_lt, Int.not_le, Decidable.not_not] at hc67
                  refine g_region ?_
                  refine g_step rfl (s_val (v_move rfl) rfl rfl ?_)
                  refine g_step rfl (s_val (v_assign rfl) rfl rfl ?_)
                  refine g_nil ?_
                  refine g_keep [0, 2, 7, 8, 9, 10, 11] [4] [4] rfl rfl rfl rfl ?_
                  exact g_has ⟨_, _, rfl, rfl, rfl, rfl, ⟨hw', by rw [idxZ_snoc hx, ← ha]; first | (rw [if_pos ⟨by omega, by first | assumption | (simp; omega)⟩]; done) | (rw [if_neg (by simp; omega)]; done) | (rw [if_neg (by simp_all)]; done) | (split <;> simp_all <;> omega)⟩⟩
                · try simp only [decide_eq_true_eq, decide_eq_false_iff_not, Bool.not_eq_true', Bool.not_eq_false', Bool.not_eq_eq_eq_not, Bool.not_true, Bool.not_false, Bool.and_eq_true, Bool.or_eq_true, Bool.or_eq_false_iff, beq_iff_eq, beq_eq_false_iff_ne, ne_eq, Int.not_lt, Int.not_le, Decidable.not_not] at hc67
                  refine g_skip ?_
                  refine g_keep [0, 2, 7, 8, 9, 10, 11] [4] [4] rfl rfl rfl rfl ?_
                  exact g_has ⟨_, _, rfl, rfl, rfl, rfl, ⟨hw', by rw [idxZ_snoc hx, ← ha]; first | (rw [if_pos ⟨by omega, by first | assumption | (simp; omega)⟩]; done) | (rw [if_neg (by simp; omega)]; done) | (rw [if_neg (by simp_all)]; done) | (split <;> simp_all <;> omega)⟩⟩
              · try simp only [decide_eq_true_eq, decide_eq_false_iff_not, Bool.not_eq_true', Bool.not_eq_false', Bool.not_eq_eq_eq_not, Bool.not_true, Bool.not_false, Bool.and_eq_true, Bool.or_eq_true, Bool.or_eq_false_iff, beq_iff_eq, beq_eq_false_iff_ne, ne_eq, Int.not_lt, Int.not_le, Decidable.not_not] at hg64
                refine g_step_no (j := 7) (t := 64) rfl rfl rfl rfl rfl rfl rfl ?_
                refine g_step_no (j := 7) (t := 64) rfl rfl rfl rfl rfl rfl rfl ?_
                refine g_step rfl (s_val (v_pick_f rfl rfl) rfl rfl ?_)
                refine g_nil ?_
                refine g_next hK14 ?_
                refine g_cond rfl (fun h => by cases h) (fun _ => ?_)
                refine g_skip ?_
                refine g_keep [0, 2, 7, 8, 9, 10, 11] [4] [4] rfl rfl rfl rfl ?_
                exact g_has ⟨_, _, rfl, rfl, rfl, rfl, ⟨hw', by rw [idxZ_snoc hx, ← ha]; first | (rw [if_pos ⟨by omega, by first | assumption | (simp; omega)⟩]; done) | (rw [if_neg (by simp; omega)]; done) | (rw [if_neg (by simp_all)]; done) | (split <;> simp_all <;> omega)⟩⟩
            · skip
              obtain ⟨w', a', rfl, rfl, rfl, rfl, hw', ha'⟩ := hI
              refine g_cut (fun env L B G => ∃ (w' : Bool) (a' c' : Int), env = [(0, encRs l), (2, .int .i64 id), (7, .bool w'), (8, .int .i64 a'), (9, .int .i64 c'), (10, .int .i64 d), (11, .int .i64 (k : Int))] ∧ L = [(4, 4, 0)] ∧ B = [(4, encR r)] ∧ H = G ∧ w' = srt (l.take (k + 1)) ∧ a' = idxZ (fun x => decide (x.id = id)) (l.take (k + 1)) ∧ c' = idxZ (fun x => decide (x.id = r.id)) (l.take (k + 1))) ?_ (fun env L B G hI => ?_)
              · skip
                refine g_seq (fun K15 hK15 => ?_)
                refine g_draw (n := 12) (fun j => !([] : List Nat).contains j) rfl rfl ?_
                refine m_take 0 false rfl rfl (by kernel_rfl) (by kernel_rfl) (by kernel_rfl) (fun _ _ _ _ h => h) (v_move rfl) rfl rfl ?_
                refine m_take 1 false rfl rfl (by kernel_rfl) (by kernel_rfl) (by kernel_rfl) (fun _ _ _ _ h => h) (v_move rfl) rfl rfl ?_
                refine m_take 2 false rfl rfl (by kernel_rfl) (by kernel_rfl) (by kernel_rfl) (fun _ _ _ _ h => h) (v_indexAddr ty34 ty32 rfl rfl (by first | rfl | assumption) (by first | rfl | exact (rfl : (0 : Int) = ((0 : Nat) : Int)) | exact (Int.toNat_of_nonneg (by omega)).symm) (by first | assumption | exact map_get (by assumption) | rfl) rfl) rfl rfl ?_
                refine m_take 3 false rfl rfl (by kernel_rfl) (by kernel_rfl) (by kernel_rfl) (fun _ _ _ _ h => h) (by first | exact v_fieldAddr ty32 fo32_0 ty3 rfl | exact v_fieldAddr_box ty32 fo32_0 ty3 rfl) rfl rfl ?_
                refine m_take 4 true rfl rfl (by kernel_rfl) (by kernel_rfl) (by kernel_rfl) (fun _ _ _ _ h => h) (by first | exact v_load ty3 rfl rfl (by first | rfl | assumption) (by first | assumption | exact map_get (by assumption) | rfl) rfl | exact v_load_box ty3 rfl rfl (by assumption) rfl) rfl rfl ?_
                refine m_takel 5 rfl rfl (by kernel_rfl) (by kernel_rfl) (by kernel_rfl) (fun _ _ _ _ h => h) (vl_fieldAddr ty32 fo32_0 ty3 rfl) rfl rfl ?_
                refine m_take 6 true rfl rfl (by kernel_rfl) (by kernel_rfl) (by kernel_rfl) (fun _ _ _ _ h => h) (v_loadl ty3 rfl rfl rfl rfl) rfl rfl ?_
                refine m_take 7 false rfl rfl (by kernel_rfl) (by kernel_rfl) (by kernel_rfl) (fun _ _ _ _ h => h) (v_eql rfl rfl) rfl rfl ?_
                refine m_take 8 false rfl rfl (by kernel_rfl) (by kernel_rfl) (by kernel_rfl) (fun _ _ _ _ h => h) (v_move rfl) rfl rfl ?_
                refine m_split 77 rfl (fun hg77 => ?_) (fun hg77 => ?_)
                · try simp only [decide_eq_true_eq, decide_eq_false_iff_not, Bool.not_eq_true', Bool.not_eq_false', Bool.not_eq_eq_eq_not, Bool.not_true, Bool.not_false, Bool.and_eq_true, Bool.or_eq_true, Bool.or_eq_false_iff, beq_iff_eq, beq_eq_false_iff_ne, ne_eq, Int.not_lt, Int.not_le, Decidable.not_not] at hg77
                  refine m_take_yes (j := 8) (t := 77) 9 false rfl rfl rfl rfl rfl (by kernel_rfl) (by kernel_rfl) (by kernel_rfl) (fun _ _ _ _ h => h) (v_move rfl) rfl rfl ?_
                  refine m_take_yes (j := 8) (t := 77) 10 false rfl rfl rfl rfl rfl (by kernel_rfl) (by kernel_rfl) (by kernel_rfl) (fun _ _ _ _ h => h) (v_lss rfl rfl) rfl rfl ?_
                  refine m_take 11 false rfl rfl (by kernel_rfl) (by kernel_rfl) (by kernel_rfl) (fun _ _ _ _ h => h) (v_pick_t rfl rfl) rfl rfl ?_
                  refine m_done (by kernel_rfl) ?_
                  refine g_next hK15 ?_
                  refine g_cond rfl (fun hc80 => ?_) (fun hc80 => ?_)
                  · try simp only [decide_eq_true_eq, decide_eq_false_iff_not, Bool.not_eq_true', Bool.not_eq_false', Bool.not_eq_eq_eq_not, Bool.not_true, Bool.not_false, Bool.and_eq_true, Bool.or_eq_true, Bool.or_eq_false_iff, beq_iff_eq, beq_eq_false_iff_ne, ne_eq, Int.not_lt, Int.not_le, Decidable.not_not] at hc80
                    refine g_region ?_
                    refine g_step rfl (s_val (v_move rfl) rfl rfl ?_)
                    refine g_step rfl (s_val (v_assign rfl) rfl rfl ?_)
                    refine g_nil ?_
                    refine g_keep [0, 2, 7, 8, 9, 10, 11] [4] [4] rfl rfl rfl rfl ?_
                    exact g_has ⟨_, _, _, rfl, rfl, rfl, rfl, ⟨hw', ha', by rw [idxZ_snoc hx, ← hcc]; first | (rw [if_pos ⟨by omega, by first | assumption | (simp; omega)⟩]; done) | (rw [if_neg (by simp; omega)]; done) | (rw [if_neg (by simp_all)]; done) | (split <;> simp_all <;> omega)⟩⟩
                  · try simp only [decide_eq_true_eq, decide_eq_false_iff_not, Bool.not_eq_true', Bool.not_eq_false', Bool.not_eq_eq_eq_not, Bool.not_true, Bool.not_false, Bool.and_eq_true, Bool.or_eq_true, Bool.or_eq_false_iff, beq_iff_eq, beq_eq_false_iff_ne, ne_eq, Int.not_lt, Int.not_le, Decidable.not_not] at hc80
                    refine g_skip ?_
                    refine g_keep [0, 2, 7, 8, 9, 10, 11] [4] [4] rfl rfl rfl rfl ?_
                    exact g_has ⟨_, _, _, rfl, rfl, rfl, rfl, ⟨hw', ha', by rw [idxZ_snoc hx, ← hcc]; first | (rw [if_pos ⟨by omega, by first | assumption | (simp; omega)⟩]; done) | (rw [if_neg (by simp; omega)]; done) | (rw [if_neg (by simp_all)]; done) | (split <;> simp_all <;> omega)⟩⟩
                · try simp only [decide_eq_true_eq, decide_eq_false_iff_not, Bool.not_eq_true', Bool.not_eq_false', Bool.not_eq_eq_eq_not, Bool.not_true, Bool.not_false, Bool.and_eq_true, Bool.or_eq_true, Bool.or_eq_false_iff, beq_iff_eq, beq_eq_false_iff_ne, ne_eq, Int.not_lt, Int.not_le, Decidable.not_not] at hg77
                  refine m_take_no (j := 8) (t := 77) 9 rfl rfl rfl rfl rfl rfl (by kernel_rfl) (by kernel_rfl) (by kernel_rfl) (fun _ _ _ _ h => h) rfl rfl ?_
                  refine m_take_no (j := 8) (t := 77) 10 rfl rfl rfl rfl rfl rfl (by kernel_rfl) (by kernel_rfl) (by kernel_rfl) (fun _ _ _ _ h => h) rfl rfl ?_
                  refine m_take 11 false rfl rfl (by kernel_rfl) (by kernel_rfl) (by kernel_rfl) (fun _ _ _ _ h => h) (v_pick_f rfl rfl) rfl rfl ?_
                  refine m_done (by kernel_rfl) ?_
                  refine g_next hK15 ?_
                  refine g_cond rfl (fun h => by cases h) (fun _ => ?_)
                  refine g_skip ?_
                  refine g_keep [0, 2, 7, 8, 9, 10, 11] [4] [4] rfl rfl rfl rfl ?_
                  exact g_has ⟨_, _, _, rfl, rfl, rfl, rfl, ⟨hw', ha', by rw [idxZ_snoc hx, ← hcc]; first | (rw [if_pos ⟨by omega, by first | assumption | (simp; omega)⟩]; done) | (rw [if_neg (by simp; omega)]; done) | (rw [if_neg (by simp_all)]; done) | (split <;> simp_all <;> omega)⟩⟩
              · skip
                obtain ⟨w', a', c', rfl, rfl, rfl, rfl, hw', ha', hc'⟩ := hI
                refine g_seq (fun K16 hK16 => ?_)
                refine g_draw (n := 12) (fun j => !([] : List Nat).contains j) rfl rfl ?_
                refine m_take 0 false rfl rfl (by kernel_rfl) (by kernel_rfl) (by kernel_rfl) (fun _ _ _ _ h => h) (v_move rfl) rfl rfl ?_
                refine m_take 1 false rfl rfl (by kernel_rfl) (by kernel_rfl) (by kernel_rfl) (fun _ _ _ _ h => h) (v_move rfl) rfl rfl ?_
                refine m_take 2 false rfl rfl (by kernel_rfl) (by kernel_rfl) (by kernel_rfl) (fun _ _ _ _ h => h) (v_indexAddr ty34 ty32 rfl rfl (by first | rfl | assumption) (by first | rfl | exact (rfl : (0 : Int) = ((0 : Nat) : Int)) | exact (Int.toNat_of_nonneg (by omega)).symm) (by first | assumption | exact map_get (by assumption) | rfl) rfl) rfl rfl ?_
                refine m_take 3 false rfl rfl (by kernel_rfl) (by kernel_rfl) (by kernel_rfl) (fun _ _ _ _ h => h) (by first | exact v_fieldAddr ty32 fo32_0 ty3 rfl | exact v_fieldAddr_box ty32 fo32_0 ty3 rfl) rfl rfl ?_
                refine m_take 4 true rfl rfl (by kernel_rfl) (by kernel_rfl) (by kernel_rfl) (fun _ _ _ _ h => h) (by first | exact v_load ty3 rfl rfl (by first | rfl | assumption) (by first | assumption | exact map_get (by assumption) | rfl) rfl | exact v_load_box ty3 rfl rfl (by assumption) rfl) rfl rfl ?_
                refine m_takel 5 rfl rfl (by kernel_rfl) (by kernel_rfl) (by kernel_rfl) (fun _ _ _ _ h => h) (vl_fieldAddr ty32 fo32_0 ty3 rfl) rfl rfl ?_
                refine m_take 6 true rfl rfl (by kernel_rfl) (by kernel_rfl) (by kernel_rfl) (fun _ _ _ _ h => h) (v_loadl ty3 rfl rfl rfl rfl) rfl rfl ?_
                refine m_take 7 false rfl rfl (by kernel_rfl) (by kernel_rfl) (by kernel_rfl) (fun _ _ _ _ h => h) (v_gtr rfl rfl) rfl rfl ?_
                refine m_take 8 false rfl rfl (by kernel_rfl) (by kernel_rfl) (by kernel_rfl) (fun _ _ _ _ h => h) (v_move rfl) rfl rfl ?_
                refine m_split 90 rfl (fun hg90 => ?_) (fun hg90 => ?_)
                · try simp only [decide_eq_true_eq, decide_eq_false_iff_not, Bool.not_eq_true', Bool.not_eq_false', Bool.not_eq_eq_eq_not, Bool.not_true, Bool.not_false, Bool.and_eq_true, Bool.or_eq_true, Bool.or_eq_false_iff, beq_iff_eq, beq_eq_false_iff_ne, ne_eq, Int.not_lt, Int.not_le, Decidable.not_not] at hg90
                  refine m_take_yes (j := 8) (t := 90) 9 false rfl rfl rfl rfl rfl (by kernel_rfl) (by kernel_rfl) (by kernel_rfl) (fun _ _ _ _ h => h) (v_move rfl) rfl rfl ?_
                  refine m_take_yes (j := 8) (t := 90) 10 false rfl rfl rfl rfl rfl (by kernel_rfl) (by kernel_rfl) (by kernel_rfl) (fun _ _ _ _ h => h) (v_lss rfl rfl) rfl rfl ?_
                  refine m_take 11 false rfl rfl (by kernel_rfl) (by kernel_rfl) (by kernel_rfl) (fun _ _ _ _ h => h) (v_pick_t rfl rfl) rfl rfl ?_
                  refine m_done (by kernel_rfl) ?_
                  refine g_next hK16 ?_
                  refine g_cond rfl (fun hc93 => ?_) (fun hc93 => ?_)
                  · try simp only [decide_eq_true_eq, decide_eq_false_iff_not, Bool.not_eq_true', Bool.not_eq_false', Bool.not_eq_eq_eq_not, Bool.not_true, Bool.not_false, Bool.and_eq_true, Bool.or_eq_true, Bool.or_eq_false_iff, beq_iff_eq, beq_eq_false_iff_ne, ne_eq, Int.not_lt, Int.not_le, Decidable.not_not] at hc93
                    refine g_region ?_
                    refine g_step rfl (s_val (v_move rfl) rfl rfl ?_)
                    refine g_step rfl (s_val (v_assign rfl) rfl rfl ?_)
                    refine g_nil ?_
                    refine g_block_normal ?_
                    refine g_keep [0, 2, 7, 8, 9, 10, 11] [4] [4] rfl rfl rfl rfl ?_
                    exact g_has ⟨_, _, _, _, rfl, rfl, rfl, rfl, ⟨hw', ha', hc', by rw [idxZ_snoc hx, ← hd]; first | (rw [if_pos ⟨by omega, by first | assumption | (simp; omega)⟩]; done) | (rw [if_neg (by simp; omega)]; done) | (rw [if_neg (by simp_all)]; done) | (split <;> simp_all <;> omega)⟩⟩
                  · try simp only [decide_eq_true_eq, decide_eq_false_iff_not, Bool.not_eq_true', Bool.not_eq_false', Bool.not_eq_eq_eq_not, Bool.not_true, Bool.not_false, Bool.and_eq_true, Bool.or_eq_true, Bool.or_eq_false_iff, beq_iff_eq, beq_eq_false_iff_ne, ne_eq, Int.not_lt, Int.not_le, Decidable.not_not] at hc93
                    refine g_skip ?_
                    refine g_block_normal ?_
                    refine g_keep [0, 2, 7, 8, 9, 10, 11] [4] [4] rfl rfl rfl rfl ?_
                    exact g_has ⟨_, _, _, _, rfl, rfl, rfl, rfl, ⟨hw', ha', hc', by rw [idxZ_snoc hx, ← hd]; first | (rw [if_pos ⟨by omega, by first | assumption | (simp; omega)⟩]; done) | (rw [if_neg (by simp; omega)]; done) | (rw [if_neg (by simp_all)]; done) | (split <;> simp_all <;> omega)⟩⟩
                · try simp only [decide_eq_true_eq, decide_eq_false_iff_not, Bool.not_eq_true', Bool.not_eq_false', Bool.not_eq_eq_eq_not, Bool.not_true, Bool.not_false, Bool.and_eq_true, Bool.or_eq_true, Bool.or_eq_false_iff, beq_iff_eq, beq_eq_false_iff_ne, ne_eq, Int.not_lt, Int.not_le, Decidable.not_not] at hg90
                  refine m_take_no (j := 8) (t := 90) 9 rfl rfl rfl rfl rfl rfl (by kernel_rfl) (by kernel_rfl) (by kernel_rfl) (fun _ _ _ _ h => h) rfl rfl ?_
                  refine m_take_no (j := 8) (t := 90) 10 rfl rfl rfl rfl rfl rfl (by kernel_rfl) (by kernel_rfl) (by kernel_rfl) (fun _ _ _ _ h => h) rfl rfl ?_
                  refine m_take 11 false rfl rfl (by kernel_rfl) (by kernel_rfl) (by kernel_rfl) (fun _ _ _ _ h => h) (v_pick_f rfl rfl) rfl rfl ?_
                  refine m_done (by kernel_rfl) ?_
                  refine g_next hK16 ?_
                  refine g_cond rfl (fun h => by cases h) (fun _ => ?_)
                  refine g_skip ?_
                  refine g_block_normal ?_
                  refine g_keep [0, 2, 7, 8, 9, 10, 11] [4] [4] rfl rfl rfl rfl ?_
                  exact g_has ⟨_, _, _, _, rfl, rfl, rfl, rfl, ⟨hw', ha', hc', by rw [idxZ_snoc hx, ← hd]; first | (rw [if_pos ⟨by omega, by first | assumption | (simp; omega)⟩]; done) | (rw [if_neg (by simp; omega)]; done) | (rw [if_neg (by simp_all)]; done) | (split <;> simp_all <;> omega)⟩⟩
        · skip
          obtain ⟨w', a', c', d', rfl, rfl, rfl, rfl, hw', ha', hc', hd'⟩ := hI
          refine g_region ?_
          refine g_step rfl (s_val (v_move rfl) rfl rfl ?_)
          refine g_step rfl (s_val (v_add rfl rfl (by omega)) rfl rfl ?_)
          refine g_step rfl (s_val (v_assign rfl) rfl rfl ?_)
          refine g_nil ?_
          refine g_keep [0, 2, 7, 8, 9, 10, 11] [4] [4] rfl rfl rfl rfl ?_
          exact g_round _ (by omega) ⟨k + 1, w', a', c', d', by omega, rfl, rfl, rfl, rfl, rfl, ⟨hw', ha', hc', hd'⟩⟩
      · try simp only [decide_eq_true_eq, decide_eq_false_iff_not, Bool.not_eq_true', Bool.not_eq_false', Bool.not_eq_eq_eq_not, Bool.not_true, Bool.not_false, Bool.and_eq_true, Bool.or_eq_true, Bool.or_eq_false_iff, beq_iff_eq, beq_eq_false_iff_ne, ne_eq, Int.not_lt, Int.not_le, Decidable.not_not] at hc30
        obtain rfl : k = l.length := by omega
        rw [List.take_length] at hw ha hcc hd
        refine g_exit ?_
        refine g_then_exit ?_
        refine g_then_exit ?_
        refine g_block_same ?_
        refine g_next hK9 ?_
        refine g_seq (fun K17 hK17 => ?_)
        refine g_region ?_
        refine g_step rfl (s_val (v_move rfl) rfl rfl ?_)
        refine g_step rfl (s_val (v_move rfl) rfl rfl ?_)
        refine g_step rfl (s_callp rfl rfl rfl (find_ok l id _ _ rfl (by omega) hsl) ?_)
        rintro _ rfl
        refine g_step rfl (s_val (v_move rfl) rfl rfl ?_)
        refine g_step rfl (s_val (v_extract rfl rfl) rfl rfl ?_)
        refine g_step rfl (s_val (v_extract rfl rfl) rfl rfl ?_)
        refine g_step rfl (s_alloc (av := (.agg [(.int .i64 0), (.int .i64 0), (.int .i64 0), (.int .i64 0), (.int .i64 0), (.bool false), .nil0])) ty32 rfl rfl rfl rfl ?_)
        refine g_step rfl (s_store_all ty32 rfl rfl rfl rfl rfl rfl ?_)
        refine g_step rfl (s_val (v_assign rfl) rfl rfl ?_)
        refine g_nil ?_
        refine g_next hK17 ?_
        refine g_cut (fun env L B G => ∃ (w : Bool) (c d : Int), env = [(0, (encRs l)), (7, .bool w), (9, .int .i64 c), (10, .int .i64 d)] ∧ L = [(4, 4, 0)] ∧ B = [(4, (encR r))] ∧ H = G ∧ w = srt l ∧ c = idxZ (fun x => decide (x.id = r.id)) (l) ∧ d = idxZ (fun x => decide (r.id < x.id)) (l) ∧ l.length ≤ 20 ∧ (∀ x ∈ l, Small x.bag) ∧ Small r.bag) ?_ (fun env L B G hI => ?_)
        · skip
          refine g_seq (fun K18 hK18 => ?_)
          refine g_draw (n := 32) (fun j => !([] : List Nat).contains j) rfl rfl ?_
          have hsf := rfind_small (id := id) hsl
          have hfl := rfind_flag l id
          rw [← ha] at hfl
          refine m_take 0 false rfl rfl (by kernel_rfl) (by kernel_rfl) (by kernel_rfl) (fun _ _ _ _ h => h) (v_move rfl) rfl rfl ?_
          refine m_take 2 false rfl rfl (by kernel_rfl) (by kernel_rfl) (by kernel_rfl) (fun _ _ _ _ h => h) (v_move rfl) rfl rfl ?_
          refine m_one 1 (by kernel_rfl) rfl rfl ?_
          refine sm_callp rfl rfl rfl (sorted_ok l _ (by omega) hsl) ?_
          rintro _ rfl
          refine m_take 3 false rfl rfl (by kernel_rfl) (by kernel_rfl) (by kernel_rfl) (fun _ _ _ _ h => h) (v_bool_neq ty4 rfl rfl) rfl rfl ?_
          refine m_take 4 false rfl rfl (by kernel_rfl) (by kernel_rfl) (by kernel_rfl) (fun _ _ _ _ h => h) (v_move rfl) rfl rfl ?_
          refine m_split 105 rfl (fun hg105 => ?_) (fun hg105 => ?_)
          · exfalso; (try simp only [decide_eq_true_eq, decide_eq_false_iff_not, Bool.not_eq_true', Bool.not_eq_false', Bool.not_eq_eq_eq_not, Bool.not_true, Bool.not_false, Bool.and_eq_true, Bool.or_eq_true, Bool.or_eq_false_iff, beq_iff_eq, beq_eq_false_iff_ne, ne_eq, Int.not_lt, Int.not_le, Decidable.not_not] at hg105); rw [hw] at hg105; simp at hg105
          · try simp only [decide_eq_true_eq, decide_eq_false_iff_not, Bool.not_eq_true', Bool.not_eq_false', Bool.not_eq_eq_eq_not, Bool.not_true, Bool.not_false, Bool.and_eq_true, Bool.or_eq_true, Bool.or_eq_false_iff, beq_iff_eq, beq_eq_false_iff_ne, ne_eq, Int.not_lt, Int.not_le, Decidable.not_not] at hg105
            refine m_take_yes (j := 4) (t := 105) 5 false rfl rfl rfl rfl rfl (by kernel_rfl) (by kernel_rfl) (by kernel_rfl) (fun _ _ _ _ h => h) (v_move rfl) rfl rfl ?_
            refine m_take_yes (j := 4) (t := 105) 6 false rfl rfl rfl rfl rfl (by kernel_rfl) (by kernel_rfl) (by kernel_rfl) (fun _ _ _ _ h => h) (v_move rfl) rfl rfl ?_
            refine m_take_yes (j := 4) (t := 105) 7 false rfl rfl rfl rfl rfl (by kernel_rfl) (by kernel_rfl) (by kernel_rfl) (fun _ _ _ _ h => h) (v_geq rfl rfl) rfl rfl ?_
            refine m_take_yes (j := 4) (t := 105) 8 false rfl rfl rfl rfl rfl (by kernel_rfl) (by kernel_rfl) (by kernel_rfl) (fun _ _ _ _ h => h) (v_bool_neq ty4 rfl rfl) rfl rfl ?_
            refine m_take 9 false rfl rfl (by kernel_rfl) (by kernel_rfl) (by kernel_rfl) (fun _ _ _ _ h => h) (v_pick_f rfl rfl) rfl rfl ?_
            refine m_take 10 false rfl rfl (by kernel_rfl) (by kernel_rfl) (by kernel_rfl) (fun _ _ _ _ h => h) (v_move rfl) rfl rfl ?_
            refine m_split 111 rfl (fun hg111 => ?_) (fun hg111 => ?_)
            · exfalso; (try simp only [decide_eq_true_eq, decide_eq_false_iff_not, Bool.not_eq_true', Bool.not_eq_false', Bool.not_eq_eq_eq_not, Bool.not_true, Bool.not_false, Bool.and_eq_true, Bool.or_eq_true, Bool.or_eq_false_iff, beq_iff_eq, beq_eq_false_iff_ne, ne_eq, Int.not_lt, Int.not_le, Decidable.not_not] at hg111); rw [hfl] at hg111; simp at hg111
            · try simp only [decide_eq_true_eq, decide_eq_false_iff_not, Bool.not_eq_true', Bool.not_eq_false', Bool.not_eq_eq_eq_not, Bool.not_true, Bool.not_false, Bool.and_eq_true, Bool.or_eq_true, Bool.or_eq_false_iff, beq_iff_eq, beq_eq_false_iff_ne, ne_eq, Int.not_lt, Int.not_le, Decidable.not_not] at hg111
              refine m_take_yes (j := 10) (t := 111) 11 false rfl rfl rfl rfl rfl (by kernel_rfl) (by kernel_rfl) (by kernel_rfl) (fun _ _ _ _ h => h) (v_move rfl) rfl rfl ?_
              refine m_take_yes (j := 10) (t := 111) 12 false rfl rfl rfl rfl rfl (by kernel_rfl) (by kernel_rfl) (by kernel_rfl) (fun _ _ _ _ h => h) (v_move rfl) rfl rfl ?_
              refine m_split 113 rfl (fun hg113 => ?_) (fun hg113 => ?_)
              · try simp only [decide_eq_true_eq, decide_eq_false_iff_not, Bool.not_eq_true', Bool.not_eq_false', Bool.not_eq_eq_eq_not, Bool.not_true, Bool.not_false, Bool.and_eq_true, Bool.or_eq_true, Bool.or_eq_false_iff, beq_iff_eq, beq_eq_false_iff_ne, ne_eq, Int.not_lt, Int.not_le, Decidable.not_not] at hg113
                obtain ⟨j, y, hj1, hj2, hj3⟩ := rfind_at (l := l) (id := id) (by rw [hfl, decide_eq_true_eq] at hg113; omega)
                rw [← ha] at hj1
                refine m_take_yes (j := 12) (t := 113) 13 true rfl rfl rfl rfl rfl (by kernel_rfl) (by kernel_rfl) (by kernel_rfl) (fun _ _ _ _ h => h) (by first | exact v_loadl_all ty32 rfl rfl rfl rfl rfl | exact v_loadl_part (cs := [_, _, _, _, _, _, _]) ty32 rfl rfl rfl rfl rfl rfl) rfl rfl ?_
                refine m_take_yes (j := 12) (t := 113) 14 false rfl rfl rfl rfl rfl (by kernel_rfl) (by kernel_rfl) (by kernel_rfl) (fun _ _ _ _ h => h) (v_move rfl) rfl rfl ?_
                refine m_take_yes (j := 12) (t := 113) 15 false rfl rfl rfl rfl rfl (by kernel_rfl) (by kernel_rfl) (by kernel_rfl) (fun _ _ _ _ h => h) (v_move rfl) rfl rfl ?_
                refine m_take_yes (j := 12) (t := 113) 16 false rfl rfl rfl rfl rfl (by kernel_rfl) (by kernel_rfl) (by kernel_rfl) (fun _ _ _ _ h => h) (v_indexAddr ty34 ty32 rfl rfl (by first | rfl | assumption) hj1 (map_get hj2) rfl) rfl rfl ?_
                refine m_take_yes (j := 12) (t := 113) 17 true rfl rfl rfl rfl rfl (by kernel_rfl) (by kernel_rfl) (by kernel_rfl) (fun _ _ _ _ h => h) (by first | exact v_load_elt ty32 rfl rfl (by first | rfl | assumption) (map_get hj2) rfl rfl | exact v_load_box_all ty32 rfl rfl (by assumption) rfl rfl | exact v_load_part (cs := [_, _, _, _, _, _, _]) ty32 rfl rfl (by first | rfl | assumption) (map_get hj2) rfl rfl rfl | exact v_load_box_part (cs := [_, _, _, _, _, _, _]) ty32 rfl rfl (by assumption) rfl rfl rfl) rfl rfl ?_
                refine m_one_yes (j := 12) (t := 113) 18 (by kernel_rfl) rfl rfl rfl rfl rfl ?_
                refine sm_callp rfl rfl rfl (alike_ok (rfind l id).1 y _ hsf) ?_
                rintro _ rfl
                refine m_take_yes (j := 12) (t := 113) 19 false rfl rfl rfl rfl rfl (by kernel_rfl) (by kernel_rfl) (by kernel_rfl) (fun _ _ _ _ h => h) (v_not rfl) rfl rfl ?_
                refine m_take_yes (j := 10) (t := 111) 20 false rfl rfl rfl rfl rfl (by kernel_rfl) (by kernel_rfl) (by kernel_rfl) (fun _ _ _ _ h => h) (v_pick_t rfl rfl) rfl rfl ?_
                refine m_take 21 false rfl rfl (by kernel_rfl) (by kernel_rfl) (by kernel_rfl) (fun _ _ _ _ h => h) (v_pick_f rfl rfl) rfl rfl ?_
                refine m_take 22 false rfl rfl (by kernel_rfl) (by kernel_rfl) (by kernel_rfl) (fun _ _ _ _ h => h) (v_move rfl) rfl rfl ?_
                refine m_split 123 rfl (fun hg123 => ?_) (fun hg123 => ?_)
                · exfalso; (try simp only [decide_eq_true_eq, decide_eq_false_iff_not, Bool.not_eq_true', Bool.not_eq_false', Bool.not_eq_eq_eq_not, Bool.not_true, Bool.not_false, Bool.and_eq_true, Bool.or_eq_true, Bool.or_eq_false_iff, beq_iff_eq, beq_eq_false_iff_ne, ne_eq, Int.not_lt, Int.not_le, Decidable.not_not] at hg123); rw [hj3] at hg123; simp at hg123
                · try simp only [decide_eq_true_eq, decide_eq_false_iff_not, Bool.not_eq_true', Bool.not_eq_false', Bool.not_eq_eq_eq_not, Bool.not_true, Bool.not_false, Bool.and_eq_true, Bool.or_eq_true, Bool.or_eq_false_iff, beq_iff_eq, beq_eq_false_iff_ne, ne_eq, Int.not_lt, Int.not_le, Decidable.not_not] at hg123
                  refine m_take_yes (j := 22) (t := 123) 23 false rfl rfl rfl rfl rfl (by kernel_rfl) (by kernel_rfl) (by kernel_rfl) (fun _ _ _ _ h => h) (v_move rfl) rfl rfl ?_
                  refine m_take_yes (j := 22) (t := 123) 24 false rfl rfl rfl rfl rfl (by kernel_rfl) (by kernel_rfl) (by kernel_rfl) (fun _ _ _ _ h => h) (v_not rfl) rfl rfl ?_
                  refine m_take_yes (j := 22) (t := 123) 25 false rfl rfl rfl rfl rfl (by kernel_rfl) (by kernel_rfl) (by kernel_rfl) (fun _ _ _ _ h => h) (v_move rfl) rfl rfl ?_
                  refine m_split 126 rfl (fun hg126 => ?_) (fun hg126 => ?_)
                  · try simp only [decide_eq_true_eq, decide_eq_false_iff_not, Bool.not_eq_true', Bool.not_eq_false', Bool.not_eq_eq_eq_not, Bool.not_true, Bool.not_false, Bool.and_eq_true, Bool.or_eq_true, Bool.or_eq_false_iff, beq_iff_eq, beq_eq_false_iff_ne, ne_eq, Int.not_lt, Int.not_le, Decidable.not_not] at hg126
                    refine m_take_yes (j := 25) (t := 126) 26 true rfl rfl rfl rfl rfl (by kernel_rfl) (by kernel_rfl) (by kernel_rfl) (fun _ _ _ _ h => h) (by first | exact v_loadl_all ty32 rfl rfl rfl rfl rfl | exact v_loadl_part (cs := [_, _, _, _, _, _, _]) ty32 rfl rfl rfl rfl rfl rfl) rfl rfl ?_
                    refine m_take_yes (j := 25) (t := 126) 27 false rfl rfl rfl rfl rfl (by kernel_rfl) (by kernel_rfl) (by kernel_rfl) (fun _ _ _ _ h => h) (v_sub (b := (encR rzero)) (v_build (vs := []) (zs := [(.int .i64 0), (.int .i64 0), (.int .i64 0), (.int .i64 0), (.int .i64 0), (.bool false), .nil0]) (cells := [_, _, _, _, _, _, _]) ty32 pl32 rfl rfl rfl) (ASub.of_wk rfl)) rfl rfl ?_
                    refine m_one_yes (j := 25) (t := 126) 28 (by kernel_rfl) rfl rfl rfl rfl rfl ?_
                    refine sm_callp rfl rfl rfl (alike_ok (rfind l id).1 rzero _ hsf) ?_
                    rintro _ rfl
                    refine m_take_yes (j := 25) (t := 126) 29 false rfl rfl rfl rfl rfl (by kernel_rfl) (by kernel_rfl) (by kernel_rfl) (fun _ _ _ _ h => h) (v_not rfl) rfl rfl ?_
                    refine m_take_yes (j := 22) (t := 123) 30 false rfl rfl rfl rfl rfl (by kernel_rfl) (by kernel_rfl) (by kernel_rfl) (fun _ _ _ _ h => h) (v_pick_t rfl rfl) rfl rfl ?_
                    refine m_take 31 false rfl rfl (by kernel_rfl) (by kernel_rfl) (by kernel_rfl) (fun _ _ _ _ h => h) (v_pick_f rfl rfl) rfl rfl ?_
                    refine m_done (by kernel_rfl) ?_
                    refine g_next hK18 ?_
                    refine g_keep [0, 7, 9, 10, 132] [4] [4] rfl rfl rfl rfl ?_
                    refine g_cond rfl (fun hc132 => ?_) (fun hc132 => ?_)
                    · exfalso; (try simp only [decide_eq_true_eq, decide_eq_false_iff_not, Bool.not_eq_true', Bool.not_eq_false', Bool.not_eq_eq_eq_not, Bool.not_true, Bool.not_false, Bool.and_eq_true, Bool.or_eq_true, Bool.or_eq_false_iff, beq_iff_eq, beq_eq_false_iff_ne, ne_eq, Int.not_lt, Int.not_le, Decidable.not_not] at hc132); first | (have h7 := rfind_not (l := l) (id := id) (by rw [← ha]; simp_all; done); rw [h7] at hc132; simp at hc132; done) | (rw [hfl] at *; simp_all; done) | (have h7 := rfind_not (l := l) (id := id) (by rw [← ha]; rw [hfl] at *; simp_all); simp_all)
                    · try simp only [decide_eq_true_eq, decide_eq_false_iff_not, Bool.not_eq_true', Bool.not_eq_false', Bool.not_eq_eq_eq_not, Bool.not_true, Bool.not_false, Bool.and_eq_true, Bool.or_eq_true, Bool.or_eq_false_iff, beq_iff_eq, beq_eq_false_iff_ne, ne_eq, Int.not_lt, Int.not_le, Decidable.not_not] at hc132
                      refine g_skip ?_
                      refine g_keep [0, 7, 9, 10] [4] [4] rfl rfl rfl rfl ?_
                      exact g_has ⟨_, _, _, rfl, rfl, rfl, rfl, ⟨hw, hcc, hd, hl20, hsl, hsr⟩⟩
                  · try simp only [decide_eq_true_eq, decide_eq_false_iff_not, Bool.not_eq_true', Bool.not_eq_false', Bool.not_eq_eq_eq_not, Bool.not_true, Bool.not_false, Bool.and_eq_true, Bool.or_eq_true, Bool.or_eq_false_iff, beq_iff_eq, beq_eq_false_iff_ne, ne_eq, Int.not_lt, Int.not_le, Decidable.not_not] at hg126
                    refine m_take_no (j := 25) (t := 126) 26 rfl rfl rfl rfl rfl rfl (by kernel_rfl) (by kernel_rfl) (by kernel_rfl) (fun _ _ _ _ h => h) rfl rfl ?_
                    refine m_take_no (j := 25) (t := 126) 27 rfl rfl rfl rfl rfl rfl (by kernel_rfl) (by kernel_rfl) (by kernel_rfl) (fun _ _ _ _ h => h) rfl rfl ?_
                    refine m_take_no (j := 25) (t := 126) 28 rfl rfl rfl rfl rfl rfl (by kernel_rfl) (by kernel_rfl) (by kernel_rfl) (fun _ _ _ _ h => h) rfl rfl ?_
                    refine m_take_no (j := 25) (t := 126) 29 rfl rfl rfl rfl rfl rfl (by kernel_rfl) (by kernel_rfl) (by kernel_rfl) (fun _ _ _ _ h => h) rfl rfl ?_
                    refine m_take_yes (j := 22) (t := 123) 30 false rfl rfl rfl rfl rfl (by kernel_rfl) (by kernel_rfl) (by kernel_rfl) (fun _ _ _ _ h => h) (v_pick_f rfl rfl) rfl rfl ?_
                    refine m_take 31 false rfl rfl (by kernel_rfl) (by kernel_rfl) (by kernel_rfl) (fun _ _ _ _ h => h) (v_pick_f rfl rfl) rfl rfl ?_
                    refine m_done (by kernel_rfl) ?_
                    refine g_next hK18 ?_
                    refine g_keep [0, 7, 9, 10, 132] [4] [4] rfl rfl rfl rfl ?_
                    refine g_cond rfl (fun h => by cases h) (fun _ => ?_)
                    refine g_skip ?_
                    refine g_keep [0, 7, 9, 10] [4] [4] rfl rfl rfl rfl ?_
                    exact g_has ⟨_, _, _, rfl, rfl, rfl, rfl, ⟨hw, hcc, hd, hl20, hsl, hsr⟩⟩
              · try simp only [decide_eq_true_eq, decide_eq_false_iff_not, Bool.not_eq_true', Bool.not_eq_false', Bool.not_eq_eq_eq_not, Bool.not_true, Bool.not_false, Bool.and_eq_true, Bool.or_eq_true, Bool.or_eq_false_iff, beq_iff_eq, beq_eq_false_iff_ne, ne_eq, Int.not_lt, Int.not_le, Decidable.not_not] at hg113
                refine m_take_no (j := 12) (t := 113) 13 rfl rfl rfl rfl rfl rfl (by kernel_rfl) (by kernel_rfl) (by kernel_rfl) (fun _ _ _ _ h => h) rfl rfl ?_
                refine m_take_no (j := 12) (t := 113) 14 rfl rfl rfl rfl rfl rfl (by kernel_rfl) (by kernel_rfl) (by kernel_rfl) (fun _ _ _ _ h => h) rfl rfl ?_
                refine m_take_no (j := 12) (t := 113) 15 rfl rfl rfl rfl rfl rfl (by kernel_rfl) (by kernel_rfl) (by kernel_rfl) (fun _ _ _ _ h => h) rfl rfl ?_
                refine m_take_no (j := 12) (t := 113) 16 rfl rfl rfl rfl rfl rfl (by kernel_rfl) (by kernel_rfl) (by kernel_rfl) (fun _ _ _ _ h => h) rfl rfl ?_
                refine m_take_no (j := 12) (t := 113) 17 rfl rfl rfl rfl rfl rfl (by kernel_rfl) (by kernel_rfl) (by kernel_rfl) (fun _ _ _ _ h => h) rfl rfl ?_
                refine m_take_no (j := 12) (t := 113) 18 rfl rfl rfl rfl rfl rfl (by kernel_rfl) (by kernel_rfl) (by kernel_rfl) (fun _ _ _ _ h => h) rfl rfl ?_
                refine m_take_no (j := 12) (t := 113) 19 rfl rfl rfl rfl rfl rfl (by kernel_rfl) (by kernel_rfl) (by kernel_rfl) (fun _ _ _ _ h => h) rfl rfl ?_
                refine m_take_yes (j := 10) (t := 111) 20 false rfl rfl rfl rfl rfl (by kernel_rfl) (by kernel_rfl) (by kernel_rfl) (fun _ _ _ _ h => h) (v_pick_f rfl rfl) rfl rfl ?_
                refine m_take 21 false rfl rfl (by kernel_rfl) (by kernel_rfl) (by kernel_rfl) (fun _ _ _ _ h => h) (v_pick_f rfl rfl) rfl rfl ?_
                refine m_take 22 false rfl rfl (by kernel_rfl) (by kernel_rfl) (by kernel_rfl) (fun _ _ _ _ h => h) (v_move rfl) rfl rfl ?_
                refine m_take_yes (j := 22) (t := 123) 23 false rfl rfl rfl rfl rfl (by kernel_rfl) (by kernel_rfl) (by kernel_rfl) (fun _ _ _ _ h => h) (v_move rfl) rfl rfl ?_
                refine m_take_yes (j := 22) (t := 123) 24 false rfl rfl rfl rfl rfl (by kernel_rfl) (by kernel_rfl) (by kernel_rfl) (fun _ _ _ _ h => h) (v_not rfl) rfl rfl ?_
                refine m_take_yes (j := 22) (t := 123) 25 false rfl rfl rfl rfl rfl (by kernel_rfl) (by kernel_rfl) (by kernel_rfl) (fun _ _ _ _ h => h) (v_move rfl) rfl rfl ?_
                refine m_split 126 rfl (fun hg126 => ?_) (fun hg126 => ?_)
                · try simp only [decide_eq_true_eq, decide_eq_false_iff_not, Bool.not_eq_true', Bool.not_eq_false', Bool.not_eq_eq_eq_not, Bool.not_true, Bool.not_false, Bool.and_eq_true, Bool.or_eq_true, Bool.or_eq_false_iff, beq_iff_eq, beq_eq_false_iff_ne, ne_eq, Int.not_lt, Int.not_le, Decidable.not_not] at hg126
                  refine m_take_yes (j := 25) (t := 126) 26 true rfl rfl rfl rfl rfl (by kernel_rfl) (by kernel_rfl) (by kernel_rfl) (fun _ _ _ _ h => h) (by first | exact v_loadl_all ty32 rfl rfl rfl rfl rfl | exact v_loadl_part (cs := [_, _, _, _, _, _, _]) ty32 rfl rfl rfl rfl rfl rfl) rfl rfl ?_
                  refine m_take_yes (j := 25) (t := 126) 27 false rfl rfl rfl rfl rfl (by kernel_rfl) (by kernel_rfl) (by kernel_rfl) (fun _ _ _ _ h => h) (v_sub (b := (encR rzero)) (v_build (vs := []) (zs := [(.int .i64 0), (.int .i64 0), (.int .i64 0), (.int .i64 0), (.int .i64 0), (.bool false), .nil0]) (cells := [_, _, _, _, _, _, _]) ty32 pl32 rfl rfl rfl) (ASub.of_wk rfl)) rfl rfl ?_
                  refine m_one_yes (j := 25) (t := 126) 28 (by kernel_rfl) rfl rfl rfl rfl rfl ?_
                  refine sm_callp rfl rfl rfl (alike_ok (rfind l id).1 rzero _ hsf) ?_
                  rintro _ rfl
                  refine m_take_yes (j := 25) (t := 126) 29 false rfl rfl rfl rfl rfl (by kernel_rfl) (by kernel_rfl) (by kernel_rfl) (fun _ _ _ _ h => h) (v_not rfl) rfl rfl ?_
                  refine m_take_yes (j := 22) (t := 123) 30 false rfl rfl rfl rfl rfl (by kernel_rfl) (by kernel_rfl) (by kernel_rfl) (fun _ _ _ _ h => h) (v_pick_t rfl rfl) rfl rfl ?_
                  refine m_take 31 false rfl rfl (by kernel_rfl) (by kernel_rfl) (by kernel_rfl) (fun _ _ _ _ h => h) (v_pick_f rfl rfl) rfl rfl ?_
                  refine m_done (by kernel_rfl) ?_
                  refine g_next hK18 ?_
                  refine g_keep [0, 7, 9, 10, 132] [4] [4] rfl rfl rfl rfl ?_
                  refine g_cond rfl (fun hc132 => ?_) (fun hc132 => ?_)
                  · exfalso; (try simp only [decide_eq_true_eq, decide_eq_false_iff_not, Bool.not_eq_true', Bool.not_eq_false', Bool.not_eq_eq_eq_not, Bool.not_true, Bool.not_false, Bool.and_eq_true, Bool.or_eq_true, Bool.or_eq_false_iff, beq_iff_eq, beq_eq_false_iff_ne, ne_eq, Int.not_lt, Int.not_le, Decidable.not_not] at hc132); first | (have h7 := rfind_not (l := l) (id := id) (by rw [← ha]; simp_all; done); rw [h7] at hc132; simp at hc132; done) | (rw [hfl] at *; simp_all; done) | (have h7 := rfind_not (l := l) (id := id) (by rw [← ha]; rw [hfl] at *; simp_all); simp_all)
                  · try simp only [decide_eq_true_eq, decide_eq_false_iff_not, Bool.not_eq_true', Bool.not_eq_false', Bool.not_eq_eq_eq_not, Bool.not_true, Bool.not_false, Bool.and_eq_true, Bool.or_eq_true, Bool.or_eq_false_iff, beq_iff_eq, beq_eq_false_iff_ne, ne_eq, Int.not_lt, Int.not_le, Decidable.not_not] at hc132
                    refine g_skip ?_
                    refine g_keep [0, 7, 9, 10] [4] [4] rfl rfl rfl rfl ?_
                    exact g_has ⟨_, _, _, rfl, rfl, rfl, rfl, ⟨hw, hcc, hd, hl20, hsl, hsr⟩⟩
                · try simp only [decide_eq_true_eq, decide_eq_false_iff_not, Bool.not_eq_true', Bool.not_eq_false', Bool.not_eq_eq_eq_not, Bool.not_true, Bool.not_false, Bool.and_eq_true, Bool.or_eq_true, Bool.or_eq_false_iff, beq_iff_eq, beq_eq_false_iff_ne, ne_eq, Int.not_lt, Int.not_le, Decidable.not_not] at hg126
                  refine m_take_no (j := 25) (t := 126) 26 rfl rfl rfl rfl rfl rfl (by kernel_rfl) (by kernel_rfl) (by kernel_rfl) (fun _ _ _ _ h => h) rfl rfl ?_
                  refine m_take_no (j := 25) (t := 126) 27 rfl rfl rfl rfl rfl rfl (by kernel_rfl) (by kernel_rfl) (by kernel_rfl) (fun _ _ _ _ h => h) rfl rfl ?_
                  refine m_take_no (j := 25) (t := 126) 28 rfl rfl rfl rfl rfl rfl (by kernel_rfl) (by kernel_rfl) (by kernel_rfl) (fun _ _ _ _ h => h) rfl rfl ?_
                  refine m_take_no (j := 25) (t := 126) 29 rfl rfl rfl rfl rfl rfl (by kernel_rfl) (by kernel_rfl) (by kernel_rfl) (fun _ _ _ _ h => h) rfl rfl ?_
                  refine m_take_yes (j := 22) (t := 123) 30 false rfl rfl rfl rfl rfl (by kernel_rfl) (by kernel_rfl) (by kernel_rfl) (fun _ _ _ _ h => h) (v_pick_f rfl rfl) rfl rfl ?_
                  refine m_take 31 false rfl rfl (by kernel_rfl) (by kernel_rfl) (by kernel_rfl) (fun _ _ _ _ h => h) (v_pick_f rfl rfl) rfl rfl ?_
                  refine m_done (by kernel_rfl) ?_
                  refine g_next hK18 ?_
                  refine g_keep [0, 7, 9, 10, 132] [4] [4] rfl rfl rfl rfl ?_
                  refine g_cond rfl (fun h => by cases h) (fun _ => ?_)
                  refine g_skip ?_
                  refine g_keep [0, 7, 9, 10] [4] [4] rfl rfl rfl rfl ?_
                  exact g_has ⟨_, _, _, rfl, rfl, rfl, rfl, ⟨hw, hcc, hd, hl20, hsl, hsr⟩⟩
        · skip
          obtain ⟨w, c, d, rfl, rfl, rfl, rfl, hw, hcc, hd, hl20, hsl, hsr⟩ := hI
          refine g_seq (fun K19 hK19 => ?_)
          refine g_region ?_
          refine g_step rfl (s_val (v_assign rfl) rfl rfl ?_)
          refine g_nil ?_
          refine g_next hK19 ?_
          refine g_seq (fun K20 hK20 => ?_)
          refine g_seq (fun K21 hK21 => ?_)
          refine g_region ?_
          refine g_step rfl (s_val (v_assign rfl) rfl rfl ?_)
          refine g_nil ?_
          refine g_next hK21 ?_
          refine g_block ?_
          refine g_keep [0, 7, 9, 10, 14, 15] [4] [4] rfl rfl rfl rfl ?_
          refine g_loop (fun n env L B G => ∃ (k : Nat) (av : AV), k ≤ l.length ∧ n = l.length - k ∧ env = [(0, (encRs l)), (7, .bool w), (9, .int .i64 c), (10, .int .i64 d), (14, av), (15, .int .i64 (k : Int))] ∧ L = [(4, 4, 0)] ∧ B = [(4, (encR r))] ∧ Own w0.heap.size 7 H av ((wantGo c d r 0 (l.take k)).map encR) G ∧ (wantGo c d r 0 (l.take k)).length ≤ 2 * k) (l.length) ⟨0, .nil0, Nat.zero_le _, rfl, rfl, rfl, rfl, ⟨Own.nil .., by simp [wantGo]⟩⟩ (fun n env L B G hI => ?_)
          obtain ⟨k, av, hk, rfl, rfl, rfl, rfl, hown, hwl⟩ := hI
          refine g_seq (fun K22 hK22 => ?_)
          refine g_seq (fun K23 hK23 => ?_)
          refine g_region ?_
          refine g_step rfl (s_val (v_move rfl) rfl rfl ?_)
          refine g_step rfl (s_val (v_move rfl) rfl rfl ?_)
          refine g_step rfl (s_val (v_len ty34 rfl (by first | rfl | assumption) (by first | exact List.length_map .. | rfl)) rfl rfl ?_)
          refine g_step rfl (s_val (v_lss rfl rfl) rfl rfl ?_)
          refine g_nil ?_
          refine g_next hK23 ?_
          refine g_cond rfl (fun hc136 => ?_) (fun hc136 => ?_)
          · try simp only [decide_eq_true_eq, decide_eq_false_iff_not, Bool.not_eq_true', Bool.not_eq_false', Bool.not_eq_eq_eq_not, Bool.not_true, Bool.not_false, Bool.and_eq_true, Bool.or_eq_true, Bool.or_eq_false_iff, beq_iff_eq, beq_eq_false_iff_ne, ne_eq, Int.not_lt, Int.not_le, Decidable.not_not] at hc136
            obtain ⟨x, hx⟩ := get_some (l := l) (k := k) (by omega)
            refine g_skip ?_
            refine g_next hK22 ?_
            refine g_cut (fun env L B G => ∃ (av2 : AV), env = [(0, (encRs l)), (7, .bool w), (9, .int .i64 c), (10, .int .i64 d), (14, av2), (15, .int .i64 (k : Int))] ∧ L = [(4, 4, 0)] ∧ B = [(4, (encR r))] ∧ Own w0.heap.size 7 H av2 ((wantGo c d r 0 (l.take (k + 1))).map encR) G) ?_ (fun env L B G hI => ?_)
            · skip
              refine g_block ?_
              refine g_cut (fun env L B G => ∃ (av1 : AV), env = [(0, (encRs l)), (7, .bool w), (9, .int .i64 c), (10, .int .i64 d), (14, av1), (15, .int .i64 (k : Int))] ∧ L = [(4, 4, 0)] ∧ B = [(4, (encR r))] ∧ Own w0.heap.size 7 H av1 ((wantGo c d r 0 (l.take k) ++ (if (k : Int) = c ∨ (c < 0 ∧ (k : Int) = d) then [r] else [])).map encR) G) ?_ (fun env L B G hI => ?_)
              · skip
                refine g_seq (fun K24 hK24 => ?_)
                refine g_region ?_
                refine g_step rfl (s_val (v_move rfl) rfl rfl ?_)
                refine g_step rfl (s_val (v_move rfl) rfl rfl ?_)
                refine g_step rfl (s_val (v_eql rfl rfl) rfl rfl ?_)
                refine g_step rfl (s_val (v_move rfl) rfl rfl ?_)
                refine g_split 142 rfl (fun hg142 => ?_) (fun hg142 => ?_)
                · try simp only [decide_eq_true_eq, decide_eq_false_iff_not, Bool.not_eq_true', Bool.not_eq_false', Bool.not_eq_eq_eq_not, Bool.not_true, Bool.not_false, Bool.and_eq_true, Bool.or_eq_true, Bool.or_eq_false_iff, beq_iff_eq, beq_eq_false_iff_ne, ne_eq, Int.not_lt, Int.not_le, Decidable.not_not] at hg142
                  refine g_step_no (j := 3) (t := 142) rfl rfl rfl rfl rfl rfl rfl ?_
                  refine g_step_no (j := 3) (t := 142) rfl rfl rfl rfl rfl rfl rfl ?_
                  refine g_step_no (j := 3) (t := 142) rfl rfl rfl rfl rfl rfl rfl ?_
                  refine g_step_und (j := 6) (t := 145) rfl rfl rfl rfl rfl rfl ?_
                  refine g_step_und (j := 6) (t := 145) rfl rfl rfl rfl rfl rfl ?_
                  refine g_step_und (j := 6) (t := 145) rfl rfl rfl rfl rfl rfl ?_
                  refine g_step_no (j := 3) (t := 142) rfl rfl rfl rfl rfl rfl rfl ?_
                  refine g_step rfl (s_val (v_pick_t rfl rfl) rfl rfl ?_)
                  refine g_nil ?_
                  refine g_next hK24 ?_
                  refine g_cond rfl (fun _ => ?_) (fun h => by cases h)
                  refine g_region ?_
                  refine g_step rfl (s_val (v_move rfl) rfl rfl ?_)
                  refine g_step rfl (s_val (by first | exact v_loadl_all ty32 rfl rfl rfl rfl rfl | exact v_loadl_part (cs := [_, _, _, _, _, _, _]) ty32 rfl rfl rfl rfl rfl rfl) rfl rfl ?_)
                  refine g_step rfl (s_lit ty34 ty32 rfl rfl rfl rfl rfl rfl rfl ?_)
                  refine g_step rfl (s_append (l := ((wantGo c d r 0 (l.take k)).map encR)) (m := ([r].map encR)) ty34 ty32 rfl rfl hown rfl rfl (by refine Even.map _ ?_ _; intro _; rfl) (by intro x hx; obtain ⟨_, _, rfl⟩ := List.mem_map.1 hx; rfl) rfl (by simp; omega) (by simp; omega) ?_)
                  intro av154 G154 h154
                  rw [← List.map_append] at h154
                  refine g_step rfl (s_val (v_assign rfl) rfl rfl ?_)
                  refine g_nil ?_
                  refine g_keep [0, 7, 9, 10, 14, 15] [4] [4] rfl rfl rfl rfl ?_
                  first | exact g_has ⟨av154, rfl, rfl, rfl, by rw [if_pos (by simp_all <;> omega)]; exact h154⟩ | exact g_has ⟨av, rfl, rfl, rfl, by rw [if_neg (by simp_all <;> omega), List.append_nil]; exact hown⟩
                · try simp only [decide_eq_true_eq, decide_eq_false_iff_not, Bool.not_eq_true', Bool.not_eq_false', Bool.not_eq_eq_eq_not, Bool.not_true, Bool.not_false, Bool.and_eq_true, Bool.or_eq_true, Bool.or_eq_false_iff, beq_iff_eq, beq_eq_false_iff_ne, ne_eq, Int.not_lt, Int.not_le, Decidable.not_not] at hg142
                  refine g_step_yes (j := 3) (t := 142) rfl rfl rfl rfl (s_val (v_move rfl) rfl rfl ?_)
                  refine g_step_yes (j := 3) (t := 142) rfl rfl rfl rfl (s_val (v_lss rfl rfl) rfl rfl ?_)
                  refine g_step_yes (j := 3) (t := 142) rfl rfl rfl rfl (s_val (v_move rfl) rfl rfl ?_)
                  refine g_split 145 rfl (fun hg145 => ?_) (fun hg145 => ?_)
                  · try simp only [decide_eq_true_eq, decide_eq_false_iff_not, Bool.not_eq_true', Bool.not_eq_false', Bool.not_eq_eq_eq_not, Bool.not_true, Bool.not_false, Bool.and_eq_true, Bool.or_eq_true, Bool.or_eq_false_iff, beq_iff_eq, beq_eq_false_iff_ne, ne_eq, Int.not_lt, Int.not_le, Decidable.not_not] at hg145
                    refine g_step_yes (j := 6) (t := 145) rfl rfl rfl rfl (s_val (v_move rfl) rfl rfl ?_)
                    refine g_step_yes (j := 6) (t := 145) rfl rfl rfl rfl (s_val (v_move rfl) rfl rfl ?_)
                    refine g_step_yes (j := 6) (t := 145) rfl rfl rfl rfl (s_val (v_eql rfl rfl) rfl rfl ?_)
                    refine g_step_yes (j := 3) (t := 142) rfl rfl rfl rfl (s_val (v_pick_t rfl rfl) rfl rfl ?_)
                    refine g_step rfl (s_val (v_pick_f rfl rfl) rfl rfl ?_)
                    refine g_nil ?_
                    refine g_next hK24 ?_
                    refine g_cond rfl (fun hc150 => ?_) (fun hc150 => ?_)
                    · try simp only [decide_eq_true_eq, decide_eq_false_iff_not, Bool.not_eq_true', Bool.not_eq_false', Bool.not_eq_eq_eq_not, Bool.not_true, Bool.not_false, Bool.and_eq_true, Bool.or_eq_true, Bool.or_eq_false_iff, beq_iff_eq, beq_eq_false_iff_ne, ne_eq, Int.not_lt, Int.not_le, Decidable.not_not] at hc150
                      refine g_region ?_
                      refine g_step rfl (s_val (v_move rfl) rfl rfl ?_)
                      refine g_step rfl (s_val (by first | exact v_loadl_all ty32 rfl rfl rfl rfl rfl | exact v_loadl_part (cs := [_, _, _, _, _, _, _]) ty32 rfl rfl rfl rfl rfl rfl) rfl rfl ?_)
                      refine g_step rfl (s_lit ty34 ty32 rfl rfl rfl rfl rfl rfl rfl ?_)
                      refine g_step rfl (s_append (l := ((wantGo c d r 0 (l.take k)).map encR)) (m := ([r].map encR)) ty34 ty32 rfl rfl hown rfl rfl (by refine Even.map _ ?_ _; intro _; rfl) (by intro x hx; obtain ⟨_, _, rfl⟩ := List.mem_map.1 hx; rfl) rfl (by simp; omega) (by simp; omega) ?_)
                      intro av154 G154 h154
                      rw [← List.map_append] at h154
                      refine g_step rfl (s_val (v_assign rfl) rfl rfl ?_)
                      refine g_nil ?_
                      refine g_keep [0, 7, 9, 10, 14, 15] [4] [4] rfl rfl rfl rfl ?_
                      first | exact g_has ⟨av154, rfl, rfl, rfl, by rw [if_pos (by simp_all <;> omega)]; exact h154⟩ | exact g_has ⟨av, rfl, rfl, rfl, by rw [if_neg (by simp_all <;> omega), List.append_nil]; exact hown⟩
                    · try simp only [decide_eq_true_eq, decide_eq_false_iff_not, Bool.not_eq_true', Bool.not_eq_false', Bool.not_eq_eq_eq_not, Bool.not_true, Bool.not_false, Bool.and_eq_true, Bool.or_eq_true, Bool.or_eq_false_iff, beq_iff_eq, beq_eq_false_iff_ne, ne_eq, Int.not_lt, Int.not_le, Decidable.not_not] at hc150
                      refine g_skip ?_
                      refine g_keep [0, 7, 9, 10, 14, 15] [4] [4] rfl rfl rfl rfl ?_
                      first | exact g_has ⟨av154, rfl, rfl, rfl, by rw [if_pos (by simp_all <;> omega)]; exact h154⟩ | exact g_has ⟨av, rfl, rfl, rfl, by rw [if_neg (by simp_all <;> omega), List.append_nil]; exact hown⟩
                  · try simp only [decide_eq_true_eq, decide_eq_false_iff_not, Bool.not_eq_true', Bool.not_eq_false', Bool.not_eq_eq_eq_not, Bool.not_true, Bool.not_false, Bool.and_eq_true, Bool.or_eq_true, Bool.or_eq_false_iff, beq_iff_eq, beq_eq_false_iff_ne, ne_eq, Int.not_lt, Int.not_le, Decidable.not_not] at hg145
                    refine g_step_no (j := 6) (t := 145) rfl rfl rfl rfl rfl rfl rfl ?_
                    refine g_step_no (j := 6) (t := 145) rfl rfl rfl rfl rfl rfl rfl ?_
                    refine g_step_no (j := 6) (t := 145) rfl rfl rfl rfl rfl rfl rfl ?_
                    refine g_step_yes (j := 3) (t := 142) rfl rfl rfl rfl (s_val (v_pick_f rfl rfl) rfl rfl ?_)
                    refine g_step rfl (s_val (v_pick_f rfl rfl) rfl rfl ?_)
                    refine g_nil ?_
                    refine g_next hK24 ?_
                    refine g_cond rfl (fun h => by cases h) (fun _ => ?_)
                    refine g_skip ?_
                    refine g_keep [0, 7, 9, 10, 14, 15] [4] [4] rfl rfl rfl rfl ?_
                    first | exact g_has ⟨av154, rfl, rfl, rfl, by rw [if_pos (by simp_all <;> omega)]; exact h154⟩ | exact g_has ⟨av, rfl, rfl, rfl, by rw [if_neg (by simp_all <;> omega), List.append_nil]; exact hown⟩
              · skip
                obtain ⟨av1, rfl, rfl, rfl, hown1⟩ := hI
                refine g_seq (fun K25 hK25 => ?_)
                refine g_region ?_
                refine g_step rfl (s_val (v_move rfl) rfl rfl ?_)
                refine g_step rfl (s_val (v_move rfl) rfl rfl ?_)
                refine g_step rfl (s_val (v_neq rfl rfl) rfl rfl ?_)
                refine g_nil ?_
                refine g_next hK25 ?_
                refine g_cond rfl (fun hc157 => ?_) (fun hc157 => ?_)
                · try simp only [decide_eq_true_eq, decide_eq_false_iff_not, Bool.not_eq_true', Bool.not_eq_false', Bool.not_eq_eq_eq_not, Bool.not_true, Bool.not_false, Bool.and_eq_true, Bool.or_eq_true, Bool.or_eq_false_iff, beq_iff_eq, beq_eq_false_iff_ne, ne_eq, Int.not_lt, Int.not_le, Decidable.not_not] at hc157
                  refine g_region ?_
                  refine g_step rfl (s_val (v_move rfl) rfl rfl ?_)
                  refine g_step rfl (s_val (v_move rfl) rfl rfl ?_)
                  refine g_step rfl (s_val (v_move rfl) rfl rfl ?_)
                  refine g_step rfl (s_val (v_indexAddr ty34 ty32 rfl rfl (by first | rfl | assumption) (by first | rfl | exact (rfl : (0 : Int) = ((0 : Nat) : Int)) | exact (Int.toNat_of_nonneg (by omega)).symm) (by first | assumption | exact map_get (by assumption) | rfl) rfl) rfl rfl ?_)
                  refine g_step rfl (s_val (by first | exact v_load_elt ty32 rfl rfl (by first | rfl | assumption) (by first | assumption | exact map_get (by assumption) | rfl) rfl rfl | exact v_load_box_all ty32 rfl rfl (by assumption) rfl rfl | exact v_load_part (cs := [_, _, _, _, _, _, _]) ty32 rfl rfl (by first | rfl | assumption) (by first | assumption | exact map_get (by assumption) | rfl) rfl rfl rfl | exact v_load_box_part (cs := [_, _, _, _, _, _, _]) ty32 rfl rfl (by assumption) rfl rfl rfl) rfl rfl ?_)
                  refine g_step rfl (s_lit ty34 ty32 rfl rfl rfl rfl rfl rfl rfl ?_)
                  refine g_step rfl (s_append (l := ((wantGo c d r 0 (l.take k) ++ (if (k : Int) = c ∨ (c < 0 ∧ (k : Int) = d) then [r] else [])).map encR)) (m := ([x].map encR)) ty34 ty32 rfl rfl hown1 rfl rfl (by refine Even.map _ ?_ _; intro _; rfl) (by intro x hx; obtain ⟨_, _, rfl⟩ := List.mem_map.1 hx; rfl) rfl (by simp; split <;> simp <;> omega) (by simp; split <;> simp <;> omega) ?_)
                  intro av164 G164 h164
                  rw [← List.map_append] at h164
                  refine g_step rfl (s_val (v_assign rfl) rfl rfl ?_)
                  refine g_nil ?_
                  refine g_block_normal ?_
                  refine g_keep [0, 7, 9, 10, 14, 15] [4] [4] rfl rfl rfl rfl ?_
                  first | exact g_has ⟨av164, rfl, rfl, rfl, by rw [want_snoc hx, piece, if_neg (show ¬ (k : Int) = c by simpa using hc157), ← List.append_assoc]; exact h164⟩ | exact g_has ⟨av1, rfl, rfl, rfl, by rw [want_snoc hx, piece, if_pos (show (k : Int) = c by simpa using hc157), List.append_nil]; exact hown1⟩
                · try simp only [decide_eq_true_eq, decide_eq_false_iff_not, Bool.not_eq_true', Bool.not_eq_false', Bool.not_eq_eq_eq_not, Bool.not_true, Bool.not_false, Bool.and_eq_true, Bool.or_eq_true, Bool.or_eq_false_iff, beq_iff_eq, beq_eq_false_iff_ne, ne_eq, Int.not_lt, Int.not_le, Decidable.not_not] at hc157
                  refine g_skip ?_
                  refine g_block_normal ?_
                  refine g_keep [0, 7, 9, 10, 14, 15] [4] [4] rfl rfl rfl rfl ?_
                  first | exact g_has ⟨av164, rfl, rfl, rfl, by rw [want_snoc hx, piece, if_neg (show ¬ (k : Int) = c by simpa using hc157), ← List.append_assoc]; exact h164⟩ | exact g_has ⟨av1, rfl, rfl, rfl, by rw [want_snoc hx, piece, if_pos (show (k : Int) = c by simpa using hc157), List.append_nil]; exact hown1⟩
            · skip
              obtain ⟨av2, rfl, rfl, rfl, hown2⟩ := hI
              refine g_region ?_
              refine g_step rfl (s_val (v_move rfl) rfl rfl ?_)
              refine g_step rfl (s_val (v_add rfl rfl (by omega)) rfl rfl ?_)
              refine g_step rfl (s_val (v_assign rfl) rfl rfl ?_)
              refine g_nil ?_
              refine g_keep [0, 7, 9, 10, 14, 15] [4] [4] rfl rfl rfl rfl ?_
              exact g_round _ (by omega) ⟨k + 1, av2, by omega, rfl, rfl, rfl, rfl, ⟨hown2, by rw [want_snoc hx]; simp only [List.length_append, piece]; split <;> split <;> simp <;> omega⟩⟩
          · try simp only [decide_eq_true_eq, decide_eq_false_iff_not, Bool.not_eq_true', Bool.not_eq_false', Bool.not_eq_eq_eq_not, Bool.not_true, Bool.not_false, Bool.and_eq_true, Bool.or_eq_true, Bool.or_eq_false_iff, beq_iff_eq, beq_eq_false_iff_ne, ne_eq, Int.not_lt, Int.not_le, Decidable.not_not] at hc136
            obtain rfl : k = l.length := by omega
            rw [List.take_length] at hown hwl
            refine g_exit ?_
            refine g_then_exit ?_
            refine g_then_exit ?_
            refine g_block_same ?_
            refine g_next hK20 ?_
            refine g_cut (fun env L B G => ∃ (av3 : AV), env = [(0, (encRs l)), (7, .bool w), (14, av3)] ∧ L = [(4, 4, 0)] ∧ B = [(4, (encR r))] ∧ Own w0.heap.size 7 H av3 ((rput l r).map encR) G) ?_ (fun env L B G hI => ?_)
            · skip
              refine g_seq (fun K26 hK26 => ?_)
              refine g_region ?_
              refine g_step rfl (s_val (v_move rfl) rfl rfl ?_)
              refine g_step rfl (s_val (v_lss rfl rfl) rfl rfl ?_)
              refine g_step rfl (s_val (v_move rfl) rfl rfl ?_)
              refine g_split 167 rfl (fun hg167 => ?_) (fun hg167 => ?_)
              · try simp only [decide_eq_true_eq, decide_eq_false_iff_not, Bool.not_eq_true', Bool.not_eq_false', Bool.not_eq_eq_eq_not, Bool.not_true, Bool.not_false, Bool.and_eq_true, Bool.or_eq_true, Bool.or_eq_false_iff, beq_iff_eq, beq_eq_false_iff_ne, ne_eq, Int.not_lt, Int.not_le, Decidable.not_not] at hg167
                refine g_step_yes (j := 2) (t := 167) rfl rfl rfl rfl (s_val (v_move rfl) rfl rfl ?_)
                refine g_step_yes (j := 2) (t := 167) rfl rfl rfl rfl (s_val (v_lss rfl rfl) rfl rfl ?_)
                refine g_step rfl (s_val (v_pick_t rfl rfl) rfl rfl ?_)
                refine g_nil ?_
                refine g_next hK26 ?_
                refine g_cond rfl (fun hc170 => ?_) (fun hc170 => ?_)
                · try simp only [decide_eq_true_eq, decide_eq_false_iff_not, Bool.not_eq_true', Bool.not_eq_false', Bool.not_eq_eq_eq_not, Bool.not_true, Bool.not_false, Bool.and_eq_true, Bool.or_eq_true, Bool.or_eq_false_iff, beq_iff_eq, beq_eq_false_iff_ne, ne_eq, Int.not_lt, Int.not_le, Decidable.not_not] at hc170
                  refine g_region ?_
                  refine g_step rfl (s_val (v_move rfl) rfl rfl ?_)
                  refine g_step rfl (s_val (by first | exact v_loadl_all ty32 rfl rfl rfl rfl rfl | exact v_loadl_part (cs := [_, _, _, _, _, _, _]) ty32 rfl rfl rfl rfl rfl rfl) rfl rfl ?_)
                  refine g_step rfl (s_lit ty34 ty32 rfl rfl rfl rfl rfl rfl rfl ?_)
                  refine g_step rfl (s_append (l := ((wantGo c d r 0 l).map encR)) (m := ([r].map encR)) ty34 ty32 rfl rfl hown rfl rfl (by refine Even.map _ ?_ _; intro _; rfl) (by intro x hx; obtain ⟨_, _, rfl⟩ := List.mem_map.1 hx; rfl) rfl (by simp; omega) (by simp; omega) ?_)
                  intro av174 G174 h174
                  rw [← List.map_append] at h174
                  refine g_step rfl (s_val (v_assign rfl) rfl rfl ?_)
                  refine g_nil ?_
                  refine g_keep [0, 7, 14] [4] [4] rfl rfl rfl rfl ?_
                  first | exact g_has ⟨av174, rfl, rfl, rfl, by have h8 := want_rput l r; rw [← hcc, ← hd, if_pos (by simp_all <;> omega)] at h8; rw [← h8]; exact h174⟩ | exact g_has ⟨av, rfl, rfl, rfl, by have h8 := want_rput l r; rw [← hcc, ← hd, if_neg (by simp_all <;> omega), List.append_nil] at h8; rw [← h8]; exact hown⟩
                · try simp only [decide_eq_true_eq, decide_eq_false_iff_not, Bool.not_eq_true', Bool.not_eq_false', Bool.not_eq_eq_eq_not, Bool.not_true, Bool.not_false, Bool.and_eq_true, Bool.or_eq_true, Bool.or_eq_false_iff, beq_iff_eq, beq_eq_false_iff_ne, ne_eq, Int.not_lt, Int.not_le, Decidable.not_not] at hc170
                  refine g_skip ?_
                  refine g_keep [0, 7, 14] [4] [4] rfl rfl rfl rfl ?_
                  first | exact g_has ⟨av174, rfl, rfl, rfl, by have h8 := want_rput l r; rw [← hcc, ← hd, if_pos (by simp_all <;> omega)] at h8; rw [← h8]; exact h174⟩ | exact g_has ⟨av, rfl, rfl, rfl, by have h8 := want_rput l r; rw [← hcc, ← hd, if_neg (by simp_all <;> omega), List.append_nil] at h8; rw [← h8]; exact hown⟩
              · try simp only [decide_eq_true_eq, decide_eq_false_iff_not, Bool.not_eq_true', Bool.not_eq_false', Bool.not_eq_eq_eq_not, Bool.not_true, Bool.not_false, Bool.and_eq_true, Bool.or_eq_true, Bool.or_eq_false_iff, beq_iff_eq, beq_eq_false_iff_ne, ne_eq, Int.not_lt, Int.not_le, Decidable.not_not] at hg167
                refine g_step_no (j := 2) (t := 167) rfl rfl rfl rfl rfl rfl rfl ?_
                refine g_step_no (j := 2) (t := 167) rfl rfl rfl rfl rfl rfl rfl ?_
                refine g_step rfl (s_val (v_pick_f rfl rfl) rfl rfl ?_)
                refine g_nil ?_
                refine g_next hK26 ?_
                refine g_cond rfl (fun h => by cases h) (fun _ => ?_)
                refine g_skip ?_
                refine g_keep [0, 7, 14] [4] [4] rfl rfl rfl rfl ?_
                first | exact g_has ⟨av174, rfl, rfl, rfl, by have h8 := want_rput l r; rw [← hcc, ← hd, if_pos (by simp_all <;> omega)] at h8; rw [← h8]; exact h174⟩ | exact g_has ⟨av, rfl, rfl, rfl, by have h8 := want_rput l r; rw [← hcc, ← hd, if_neg (by simp_all <;> omega), List.append_nil] at h8; rw [← h8]; exact hown⟩
            · skip
              obtain ⟨av3, rfl, rfl, rfl, hown3⟩ := hI
              have hpl := rput_len l r
              have hps : ∀ x ∈ rput l r, Small x.bag := fun x hx => by rcases rput_mem hx with rfl | h; exact hsr; exact hsl x h
              refine g_seq (fun K27 hK27 => ?_)
              refine g_region ?_
              refine g_step rfl (s_val (v_move rfl) rfl rfl ?_)
              refine g_step rfl (s_val (by first | exact v_loadl_all ty32 rfl rfl rfl rfl rfl | exact v_loadl_part (cs := [_, _, _, _, _, _, _]) ty32 rfl rfl rfl rfl rfl rfl) rfl rfl ?_)
              refine g_step rfl (s_callp rfl rfl rfl (put_ok l r _ _ rfl (by omega) hsl hsr) ?_)
              rintro _ rfl
              refine g_step rfl (s_val (v_assign rfl) rfl rfl ?_)
              refine g_nil ?_
              refine g_next hK27 ?_
              refine g_seq (fun K28 hK28 => ?_)
              refine g_seq (fun K29 hK29 => ?_)
              refine g_region ?_
              refine g_step rfl (s_val (v_move rfl) rfl rfl ?_)
              refine g_step rfl (s_val (v_move rfl) rfl rfl ?_)
              refine g_step rfl (s_callp rfl rfl rfl (allAlike_ok (rput l r) (rput l r) _ _ av3 rfl hown3.view (by omega) hps) ?_)
              rintro _ rfl
              refine g_step rfl (s_val (v_not rfl) rfl rfl ?_)
              refine g_step rfl (s_val (v_move rfl) rfl rfl ?_)
              refine g_split 182 rfl (fun hg182 => ?_) (fun hg182 => ?_)
              · exfalso; (try simp only [decide_eq_true_eq, decide_eq_false_iff_not, Bool.not_eq_true', Bool.not_eq_false', Bool.not_eq_eq_eq_not, Bool.not_true, Bool.not_false, Bool.and_eq_true, Bool.or_eq_true, Bool.or_eq_false_iff, beq_iff_eq, beq_eq_false_iff_ne, ne_eq, Int.not_lt, Int.not_le, Decidable.not_not] at hg182); simp at hg182
              · try simp only [decide_eq_true_eq, decide_eq_false_iff_not, Bool.not_eq_true', Bool.not_eq_false', Bool.not_eq_eq_eq_not, Bool.not_true, Bool.not_false, Bool.and_eq_true, Bool.or_eq_true, Bool.or_eq_false_iff, beq_iff_eq, beq_eq_false_iff_ne, ne_eq, Int.not_lt, Int.not_le, Decidable.not_not] at hg182
                refine g_step_yes (j := 4) (t := 182) rfl rfl rfl rfl (s_val (v_move rfl) rfl rfl ?_)
                refine g_step_yes (j := 4) (t := 182) rfl rfl rfl rfl (s_callp rfl rfl rfl (recCopy_ok l _ _ rfl (by omega) hsl) ?_)
                rintro _ rfl
                refine g_step_yes (j := 4) (t := 182) rfl rfl rfl rfl (s_val (v_move rfl) rfl rfl ?_)
                refine g_step_yes (j := 4) (t := 182) rfl rfl rfl rfl (s_callp rfl rfl rfl (allAlike_ok l l _ _ _ rfl rfl (by omega) hsl) ?_)
                rintro _ rfl
                refine g_step_yes (j := 4) (t := 182) rfl rfl rfl rfl (s_val (v_not rfl) rfl rfl ?_)
                refine g_step rfl (s_val (v_pick_f rfl rfl) rfl rfl ?_)
                refine g_step rfl (s_val (v_move rfl) rfl rfl ?_)
                refine g_split 189 rfl (fun hg189 => ?_) (fun hg189 => ?_)
                · exfalso; (try simp only [decide_eq_true_eq, decide_eq_false_iff_not, Bool.not_eq_true', Bool.not_eq_false', Bool.not_eq_eq_eq_not, Bool.not_true, Bool.not_false, Bool.and_eq_true, Bool.or_eq_true, Bool.or_eq_false_iff, beq_iff_eq, beq_eq_false_iff_ne, ne_eq, Int.not_lt, Int.not_le, Decidable.not_not] at hg189); simp at hg189
                · try simp only [decide_eq_true_eq, decide_eq_false_iff_not, Bool.not_eq_true', Bool.not_eq_false', Bool.not_eq_eq_eq_not, Bool.not_true, Bool.not_false, Bool.and_eq_true, Bool.or_eq_true, Bool.or_eq_false_iff, beq_iff_eq, beq_eq_false_iff_ne, ne_eq, Int.not_lt, Int.not_le, Decidable.not_not] at hg189
                  refine g_step_yes (j := 11) (t := 189) rfl rfl rfl rfl (s_val (v_move rfl) rfl rfl ?_)
                  refine g_step_yes (j := 11) (t := 189) rfl rfl rfl rfl (s_val (v_move rfl) rfl rfl ?_)
                  refine g_split 191 rfl (fun hg191 => ?_) (fun hg191 => ?_)
                  · try simp only [decide_eq_true_eq, decide_eq_false_iff_not, Bool.not_eq_true', Bool.not_eq_false', Bool.not_eq_eq_eq_not, Bool.not_true, Bool.not_false, Bool.and_eq_true, Bool.or_eq_true, Bool.or_eq_false_iff, beq_iff_eq, beq_eq_false_iff_ne, ne_eq, Int.not_lt, Int.not_le, Decidable.not_not] at hg191
                    refine g_step_yes (j := 13) (t := 191) rfl rfl rfl rfl (s_val (by first | exact v_loadl_all ty32 rfl rfl rfl rfl rfl | exact v_loadl_part (cs := [_, _, _, _, _, _, _]) ty32 rfl rfl rfl rfl rfl rfl) rfl rfl ?_)
                    refine g_step_yes (j := 13) (t := 191) rfl rfl rfl rfl (s_callp rfl rfl rfl (may08_ok r _ hsr) ?_)
                    rintro _ rfl
                    refine g_step_yes (j := 11) (t := 189) rfl rfl rfl rfl (s_val (v_pick_t rfl rfl) rfl rfl ?_)
                    refine g_step_yes (j := 11) (t := 189) rfl rfl rfl rfl (s_val (v_move rfl) rfl rfl ?_)
                    refine g_split 195 rfl (fun hg195 => ?_) (fun hg195 => ?_)
                    · try simp only [decide_eq_true_eq, decide_eq_false_iff_not, Bool.not_eq_true', Bool.not_eq_false', Bool.not_eq_eq_eq_not, Bool.not_true, Bool.not_false, Bool.and_eq_true, Bool.or_eq_true, Bool.or_eq_false_iff, beq_iff_eq, beq_eq_false_iff_ne, ne_eq, Int.not_lt, Int.not_le, Decidable.not_not] at hg195
                      refine g_step_yes (j := 17) (t := 195) rfl rfl rfl rfl (s_val (v_move rfl) rfl rfl ?_)
                      refine g_step_yes (j := 17) (t := 195) rfl rfl rfl rfl (s_callp rfl rfl rfl (sorted_ok (rput l r) _ (by omega) hps) ?_)
                      rintro _ rfl
                      refine g_step_yes (j := 17) (t := 195) rfl rfl rfl rfl (s_val (v_not rfl) rfl rfl ?_)
                      refine g_step_yes (j := 11) (t := 189) rfl rfl rfl rfl (s_val (v_pick_t rfl rfl) rfl rfl ?_)
                      refine g_step rfl (s_val (v_pick_f rfl rfl) rfl rfl ?_)
                      refine g_nil ?_
                      refine g_next hK29 ?_
                      refine g_keep [0, 14, 16, 200] [] [] rfl rfl rfl rfl ?_
                      refine g_cond rfl (fun hc200 => ?_) (fun hc200 => ?_)
                      · exfalso; (try simp only [decide_eq_true_eq, decide_eq_false_iff_not, Bool.not_eq_true', Bool.not_eq_false', Bool.not_eq_eq_eq_not, Bool.not_true, Bool.not_false, Bool.and_eq_true, Bool.or_eq_true, Bool.or_eq_false_iff, beq_iff_eq, beq_eq_false_iff_ne, ne_eq, Int.not_lt, Int.not_le, Decidable.not_not] at hc200); first | (have h9 := srt_rput (l := l) (r := r) (by rw [← hw]; assumption) (by assumption); rw [h9] at hc200; simp at hc200; done) | simp_all
                      · try simp only [decide_eq_true_eq, decide_eq_false_iff_not, Bool.not_eq_true', Bool.not_eq_false', Bool.not_eq_eq_eq_not, Bool.not_true, Bool.not_false, Bool.and_eq_true, Bool.or_eq_true, Bool.or_eq_false_iff, beq_iff_eq, beq_eq_false_iff_ne, ne_eq, Int.not_lt, Int.not_le, Decidable.not_not] at hc200
                        refine g_skip ?_
                        refine g_next hK28 ?_
                        refine g_seq (fun K30 hK30 => ?_)
                        refine g_region ?_
                        refine g_step rfl (s_val (v_move rfl) rfl rfl ?_)
                        refine g_step rfl (s_val (v_move rfl) rfl rfl ?_)
                        refine g_step rfl (s_callp rfl rfl rfl (equal_ok (rput l r) (rput l r) _ _ av3 rfl hown3.view (by omega) hps) ?_)
                        rintro _ rfl
                        refine g_step rfl (s_val (v_move rfl) rfl rfl ?_)
                        refine g_split 204 rfl (fun hg204 => ?_) (fun hg204 => ?_)
                        · try simp only [decide_eq_true_eq, decide_eq_false_iff_not, Bool.not_eq_true', Bool.not_eq_false', Bool.not_eq_eq_eq_not, Bool.not_true, Bool.not_false, Bool.and_eq_true, Bool.or_eq_true, Bool.or_eq_false_iff, beq_iff_eq, beq_eq_false_iff_ne, ne_eq, Int.not_lt, Int.not_le, Decidable.not_not] at hg204
                          refine g_step_yes (j := 3) (t := 204) rfl rfl rfl rfl (s_val (v_move rfl) rfl rfl ?_)
                          refine g_step_yes (j := 3) (t := 204) rfl rfl rfl rfl (s_val (v_move rfl) rfl rfl ?_)
                          refine g_step_yes (j := 3) (t := 204) rfl rfl rfl rfl (s_callp rfl rfl rfl (equal_ok l (rput l r) _ _ _ rfl rfl (by omega) hsl) ?_)
                          rintro _ rfl
                          refine g_step_yes (j := 3) (t := 204) rfl rfl rfl rfl (s_val (v_move rfl) rfl rfl ?_)
                          refine g_step_yes (j := 3) (t := 204) rfl rfl rfl rfl (s_val (v_move rfl) rfl rfl ?_)
                          refine g_step_yes (j := 3) (t := 204) rfl rfl rfl rfl (s_callp rfl rfl rfl (allAlike_ok l (rput l r) _ _ av3 rfl hown3.view (by omega) hsl) ?_)
                          rintro _ rfl
                          refine g_step_yes (j := 3) (t := 204) rfl rfl rfl rfl (s_val (v_bool_eql ty4 rfl rfl) rfl rfl ?_)
                          refine g_step rfl (s_val (v_pick_t rfl rfl) rfl rfl ?_)
                          refine g_step rfl (s_val (v_move rfl) rfl rfl ?_)
                          refine g_split 213 rfl (fun hg213 => ?_) (fun hg213 => ?_)
                          · try simp only [decide_eq_true_eq, decide_eq_false_iff_not, Bool.not_eq_true', Bool.not_eq_false', Bool.not_eq_eq_eq_not, Bool.not_true, Bool.not_false, Bool.and_eq_true, Bool.or_eq_true, Bool.or_eq_false_iff, beq_iff_eq, beq_eq_false_iff_ne, ne_eq, Int.not_lt, Int.not_le, Decidable.not_not] at hg213
                            refine g_step_yes (j := 12) (t := 213) rfl rfl rfl rfl (s_callp rfl rfl rfl (awake08_ok _) ?_)
                            rintro _ rfl
                            refine g_step rfl (s_val (v_pick_t rfl rfl) rfl rfl ?_)
                            refine g_step rfl (s_val (v_assign rfl) rfl rfl ?_)
                            refine g_nil ?_
                            refine g_next hK30 ?_
                            refine g_ret ?_
                            refine g_end1 (.inl rfl) Try.results8 (.tmp rfl) [] (ASub.refl _) (by first | exact AHeap.sub_refl _ | exact hown3.sub) (fun p hp => by cases hp) ⟨rfl, ?_⟩
                            rfl
                          · exfalso; (try simp only [decide_eq_true_eq, decide_eq_false_iff_not, Bool.not_eq_true', Bool.not_eq_false', Bool.not_eq_eq_eq_not, Bool.not_true, Bool.not_false, Bool.and_eq_true, Bool.or_eq_true, Bool.or_eq_false_iff, beq_iff_eq, beq_eq_false_iff_ne, ne_eq, Int.not_lt, Int.not_le, Decidable.not_not] at hg213); simp at hg213
                        · exfalso; (try simp only [decide_eq_true_eq, decide_eq_false_iff_not, Bool.not_eq_true', Bool.not_eq_false', Bool.not_eq_eq_eq_not, Bool.not_true, Bool.not_false, Bool.and_eq_true, Bool.or_eq_true, Bool.or_eq_false_iff, beq_iff_eq, beq_eq_false_iff_ne, ne_eq, Int.not_lt, Int.not_le, Decidable.not_not] at hg204); simp at hg204
                    · try simp only [decide_eq_true_eq, decide_eq_false_iff_not, Bool.not_eq_true', Bool.not_eq_false', Bool.not_eq_eq_eq_not, Bool.not_true, Bool.not_false, Bool.and_eq_true, Bool.or_eq_true, Bool.or_eq_false_iff, beq_iff_eq, beq_eq_false_iff_ne, ne_eq, Int.not_lt, Int.not_le, Decidable.not_not] at hg195
                      refine g_step_no (j := 17) (t := 195) rfl rfl rfl rfl rfl rfl rfl ?_
                      refine g_step_no (j := 17) (t := 195) rfl rfl rfl rfl rfl rfl rfl ?_
                      refine g_step_no (j := 17) (t := 195) rfl rfl rfl rfl rfl rfl rfl ?_
                      refine g_step_yes (j := 11) (t := 189) rfl rfl rfl rfl (s_val (v_pick_f rfl rfl) rfl rfl ?_)
                      refine g_step rfl (s_val (v_pick_f rfl rfl) rfl rfl ?_)
                      refine g_nil ?_
                      refine g_next hK29 ?_
                      refine g_keep [0, 14, 16, 200] [] [] rfl rfl rfl rfl ?_
                      refine g_cond rfl (fun h => by cases h) (fun _ => ?_)
                      refine g_skip ?_
                      refine g_next hK28 ?_
                      refine g_seq (fun K31 hK31 => ?_)
                      refine g_region ?_
                      refine g_step rfl (s_val (v_move rfl) rfl rfl ?_)
                      refine g_step rfl (s_val (v_move rfl) rfl rfl ?_)
                      refine g_step rfl (s_callp rfl rfl rfl (equal_ok (rput l r) (rput l r) _ _ av3 rfl hown3.view (by omega) hps) ?_)
                      rintro _ rfl
                      refine g_step rfl (s_val (v_move rfl) rfl rfl ?_)
                      refine g_split 204 rfl (fun hg204 => ?_) (fun hg204 => ?_)
                      · try simp only [decide_eq_true_eq, decide_eq_false_iff_not, Bool.not_eq_true', Bool.not_eq_false', Bool.not_eq_eq_eq_not, Bool.not_true, Bool.not_false, Bool.and_eq_true, Bool.or_eq_true, Bool.or_eq_false_iff, beq_iff_eq, beq_eq_false_iff_ne, ne_eq, Int.not_lt, Int.not_le, Decidable.not_not] at hg204
                        refine g_step_yes (j := 3) (t := 204) rfl rfl rfl rfl (s_val (v_move rfl) rfl rfl ?_)
                        refine g_step_yes (j := 3) (t := 204) rfl rfl rfl rfl (s_val (v_move rfl) rfl rfl ?_)
                        refine g_step_yes (j := 3) (t := 204) rfl rfl rfl rfl (s_callp rfl rfl rfl (equal_ok l (rput l r) _ _ _ rfl rfl (by omega) hsl) ?_)
                        rintro _ rfl
                        refine g_step_yes (j := 3) (t := 204) rfl rfl rfl rfl (s_val (v_move rfl) rfl rfl ?_)
                        refine g_step_yes (j := 3) (t := 204) rfl rfl rfl rfl (s_val (v_move rfl) rfl rfl ?_)
                        refine g_step_yes (j := 3) (t := 204) rfl rfl rfl rfl (s_callp rfl rfl rfl (allAlike_ok l (rput l r) _ _ av3 rfl hown3.view (by omega) hsl) ?_)
                        rintro _ rfl
                        refine g_step_yes (j := 3) (t := 204) rfl rfl rfl rfl (s_val (v_bool_eql ty4 rfl rfl) rfl rfl ?_)
                        refine g_step rfl (s_val (v_pick_t rfl rfl) rfl rfl ?_)
                        refine g_step rfl (s_val (v_move rfl) rfl rfl ?_)
                        refine g_split 213 rfl (fun hg213 => ?_) (fun hg213 => ?_)
                        · try simp only [decide_eq_true_eq, decide_eq_false_iff_not, Bool.not_eq_true', Bool.not_eq_false', Bool.not_eq_eq_eq_not, Bool.not_true, Bool.not_false, Bool.and_eq_true, Bool.or_eq_true, Bool.or_eq_false_iff, beq_iff_eq, beq_eq_false_iff_ne, ne_eq, Int.not_lt, Int.not_le, Decidable.not_not] at hg213
                          refine g_step_yes (j := 12) (t := 213) rfl rfl rfl rfl (s_callp rfl rfl rfl (awake08_ok _) ?_)
                          rintro _ rfl
                          refine g_step rfl (s_val (v_pick_t rfl rfl) rfl rfl ?_)
                          refine g_step rfl (s_val (v_assign rfl) rfl rfl ?_)
                          refine g_nil ?_
                          refine g_next hK31 ?_
                          refine g_ret ?_
                          refine g_end1 (.inl rfl) Try.results8 (.tmp rfl) [] (ASub.refl _) (by first | exact AHeap.sub_refl _ | exact hown3.sub) (fun p hp => by cases hp) ⟨rfl, ?_⟩
                          rfl
                        · exfalso; (try simp only [decide_eq_true_eq, decide_eq_false_iff_not, Bool.not_eq_true', Bool.not_eq_false', Bool.not_eq_eq_eq_not, Bool.not_true, Bool.not_false, Bool.and_eq_true, Bool.or_eq_true, Bool.or_eq_false_iff, beq_iff_eq, beq_eq_false_iff_ne, ne_eq, Int.not_lt, Int.not_le, Decidable.not_not] at hg213); simp at hg213
                      · exfalso; (try simp only [decide_eq_true_eq, decide_eq_false_iff_not, Bool.not_eq_true', Bool.not_eq_false', Bool.not_eq_eq_eq_not, Bool.not_true, Bool.not_false, Bool.and_eq_true, Bool.or_eq_true, Bool.or_eq_false_iff, beq_iff_eq, beq_eq_false_iff_ne, ne_eq, Int.not_lt, Int.not_le, Decidable.not_not] at hg204); simp at hg204
                  · try simp only [decide_eq_true_eq, decide_eq_false_iff_not, Bool.not_eq_true', Bool.not_eq_false', Bool.not_eq_eq_eq_not, Bool.not_true, Bool.not_false, Bool.and_eq_true, Bool.or_eq_true, Bool.or_eq_false_iff, beq_iff_eq, beq_eq_false_iff_ne, ne_eq, Int.not_lt, Int.not_le, Decidable.not_not] at hg191
                    refine g_step_no (j := 13) (t := 191) rfl rfl rfl rfl rfl rfl rfl ?_
                    refine g_step_no (j := 13) (t := 191) rfl rfl rfl rfl rfl rfl rfl ?_
                    refine g_step_yes (j := 11) (t := 189) rfl rfl rfl rfl (s_val (v_pick_f rfl rfl) rfl rfl ?_)
                    refine g_step_yes (j := 11) (t := 189) rfl rfl rfl rfl (s_val (v_move rfl) rfl rfl ?_)
                    refine g_step_no (j := 17) (t := 195) rfl rfl rfl rfl rfl rfl rfl ?_
                    refine g_step_no (j := 17) (t := 195) rfl rfl rfl rfl rfl rfl rfl ?_
                    refine g_step_no (j := 17) (t := 195) rfl rfl rfl rfl rfl rfl rfl ?_
                    refine g_step_yes (j := 11) (t := 189) rfl rfl rfl rfl (s_val (v_pick_f rfl rfl) rfl rfl ?_)
                    refine g_step rfl (s_val (v_pick_f rfl rfl) rfl rfl ?_)
                    refine g_nil ?_
                    refine g_next hK29 ?_
                    refine g_keep [0, 14, 16, 200] [] [] rfl rfl rfl rfl ?_
                    refine g_cond rfl (fun h => by cases h) (fun _ => ?_)
                    refine g_skip ?_
                    refine g_next hK28 ?_
                    refine g_seq (fun K32 hK32 => ?_)
                    refine g_region ?_
                    refine g_step rfl (s_val (v_move rfl) rfl rfl ?_)
                    refine g_step rfl (s_val (v_move rfl) rfl rfl ?_)
                    refine g_step rfl (s_callp rfl rfl rfl (equal_ok (rput l r) (rput l r) _ _ av3 rfl hown3.view (by omega) hps) ?_)
                    rintro _ rfl
                    refine g_step rfl (s_val (v_move rfl) rfl rfl ?_)
                    refine g_split 204 rfl (fun hg204 => ?_) (fun hg204 => ?_)
                    · try simp only [decide_eq_true_eq, decide_eq_false_iff_not, Bool.not_eq_true', Bool.not_eq_false', Bool.not_eq_eq_eq_not, Bool.not_true, Bool.not_false, Bool.and_eq_true, Bool.or_eq_true, Bool.or_eq_false_iff, beq_iff_eq, beq_eq_false_iff_ne, ne_eq, Int.not_lt, Int.not_le, Decidable.not_not] at hg204
                      refine g_step_yes (j := 3) (t := 204) rfl rfl rfl rfl (s_val (v_move rfl) rfl rfl ?_)
                      refine g_step_yes (j := 3) (t := 204) rfl rfl rfl rfl (s_val (v_move rfl) rfl rfl ?_)
                      refine g_step_yes (j := 3) (t := 204) rfl rfl rfl rfl (s_callp rfl rfl rfl (equal_ok l (rput l r) _ _ _ rfl rfl (by omega) hsl) ?_)
                      rintro _ rfl
                      refine g_step_yes (j := 3) (t := 204) rfl rfl rfl rfl (s_val (v_move rfl) rfl rfl ?_)
                      refine g_step_yes (j := 3) (t := 204) rfl rfl rfl rfl (s_val (v_move rfl) rfl rfl ?_)
                      refine g_step_yes (j := 3) (t := 204) rfl rfl rfl rfl (s_callp rfl rfl rfl (allAlike_ok l (rput l r) _ _ av3 rfl hown3.view (by omega) hsl) ?_)
                      rintro _ rfl
                      refine g_step_yes (j := 3) (t := 204) rfl rfl rfl rfl (s_val (v_bool_eql ty4 rfl rfl) rfl rfl ?_)
                      refine g_step rfl (s_val (v_pick_t rfl rfl) rfl rfl ?_)
                      refine g_step rfl (s_val (v_move rfl) rfl rfl ?_)
                      refine g_split 213 rfl (fun hg213 => ?_) (fun hg213 => ?_)
                      · try simp only [decide_eq_true_eq, decide_eq_false_iff_not, Bool.not_eq_true', Bool.not_eq_false', Bool.not_eq_eq_eq_not, Bool.not_true, Bool.not_false, Bool.and_eq_true, Bool.or_eq_true, Bool.or_eq_false_iff, beq_iff_eq, beq_eq_false_iff_ne, ne_eq, Int.not_lt, Int.not_le, Decidable.not_not] at hg213
                        refine g_step_yes (j := 12) (t := 213) rfl rfl rfl rfl (s_callp rfl rfl rfl (awake08_ok _) ?_)
                        rintro _ rfl
                        refine g_step rfl (s_val (v_pick_t rfl rfl) rfl rfl ?_)
                        refine g_step rfl (s_val (v_assign rfl) rfl rfl ?_)
                        refine g_nil ?_
                        refine g_next hK32 ?_
                        refine g_ret ?_
                        refine g_end1 (.inl rfl) Try.results8 (.tmp rfl) [] (ASub.refl _) (by first | exact AHeap.sub_refl _ | exact hown3.sub) (fun p hp => by cases hp) ⟨rfl, ?_⟩
                        rfl
                      · exfalso; (try simp only [decide_eq_true_eq, decide_eq_false_iff_not, Bool.not_eq_true', Bool.not_eq_false', Bool.not_eq_eq_eq_not, Bool.not_true, Bool.not_false, Bool.and_eq_true, Bool.or_eq_true, Bool.or_eq_false_iff, beq_iff_eq, beq_eq_false_iff_ne, ne_eq, Int.not_lt, Int.not_le, Decidable.not_not] at hg213); simp at hg213
                    · exfalso; (try simp only [decide_eq_true_eq, decide_eq_false_iff_not, Bool.not_eq_true', Bool.not_eq_false', Bool.not_eq_eq_eq_not, Bool.not_true, Bool.not_false, Bool.and_eq_true, Bool.or_eq_true, Bool.or_eq_false_iff, beq_iff_eq, beq_eq_false_iff_ne, ne_eq, Int.not_lt, Int.not_le, Decidable.not_not] at hg204); simp at hg204

end Go.Proofs.Ytngffembdhcijaa

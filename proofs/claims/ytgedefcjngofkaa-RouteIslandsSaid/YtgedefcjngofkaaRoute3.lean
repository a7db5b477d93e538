import Derived.Test.YtgedefcjngofkaaRoute2
import Derived.Test.YtgedefcjngofkaaLaw08
set_option maxHeartbeats 8000000
set_option linter.unusedSimpArgs false
set_option linter.unusedVariables false
set_option maxRecDepth 100000
namespace Go.Proofs.Ytgedefcjngofkaa
open Go Go.Proofs.Ytgedefcjngofkaa.AM
theorem path_ok2 (l : List Rc) (a b least : Int) (G : AHeap) (hl : l.length ≤ 1000) (hs : ∀ x ∈ l, Small x.bag) : PCalls Try.prog 79 [encRs l, .int .i64 a, .int .i64 b, .int .i64 least] G (fun v => v = .tup [.imm ((pathR l a b least).1.map encH), .bool (pathR l a b least).2]) := by
  refine LCalls.intro 87 fi79 rfl Try.ntmps79 rfl (fun _ h => h.elim) (fun H hH w0 hw0 => ?_)
  refine g_seq (fun K0 hK0 => ?_)
  refine g_region ?_
  refine g_step rfl (s_val (v_assign rfl) rfl rfl ?_)
  refine g_step rfl (s_val (v_assign rfl) rfl rfl ?_)
  refine g_nil ?_
  refine g_next hK0 ?_
  refine g_seq (fun K1 hK1 => ?_)
  refine g_seq (fun K2 hK2 => ?_)
  refine g_region ?_
  refine g_step rfl (s_val (v_move rfl) rfl rfl ?_)
  refine g_step rfl (s_callp rfl rfl rfl (sorted_ok l _ (by omega) hs) ?_)
  rintro _ rfl
  refine g_step rfl (s_val (v_not rfl) rfl rfl ?_)
  refine g_nil ?_
  refine g_next hK2 ?_
  refine g_cond rfl (fun hc18 => ?_) (fun hc18 => ?_)
  · try simp only [decide_eq_true_eq, decide_eq_false_iff_not, Bool.not_eq_true', Bool.not_eq_false', Bool.not_eq_eq_eq_not, Bool.not_true, Bool.not_false, Bool.and_eq_true, Bool.or_eq_true, Bool.or_eq_false_iff, beq_iff_eq, beq_eq_false_iff_ne, ne_eq, Int.not_lt, Int.not_le, Decidable.not_not] at hc18
    refine g_seq (fun K3 hK3 => ?_)
    refine g_region ?_
    refine g_step rfl (s_val (v_assign rfl) rfl rfl ?_)
    refine g_step rfl (s_val (v_assign rfl) rfl rfl ?_)
    refine g_nil ?_
    refine g_next hK3 ?_
    refine g_ret ?_
    refine g_then_ret ?_
    refine g_end2 (.inl rfl) Try.results79 (.tmp rfl) (.tmp rfl) [] (ASub.tup (m := [.imm [], .bool false]) ⟨ASub.nil0, ASub.refl _, trivial⟩) (AHeap.sub_refl _) (fun p hp => by cases hp) ⟨rfl, ?_⟩
    first | (rw [pathR_out (by simp_all)]; rfl; done) | (rw [pathR_out (by simp_all)]; rfl; rfl)
  · try simp only [decide_eq_true_eq, decide_eq_false_iff_not, Bool.not_eq_true', Bool.not_eq_false', Bool.not_eq_eq_eq_not, Bool.not_true, Bool.not_false, Bool.and_eq_true, Bool.or_eq_true, Bool.or_eq_false_iff, beq_iff_eq, beq_eq_false_iff_ne, ne_eq, Int.not_lt, Int.not_le, Decidable.not_not] at hc18
    refine g_skip ?_
    refine g_next hK1 ?_
    refine g_seq (fun K4 hK4 => ?_)
    refine g_region ?_
    refine g_step rfl (s_val (v_move rfl) rfl rfl ?_)
    refine g_step rfl (s_val (v_move rfl) rfl rfl ?_)
    refine g_step rfl (s_callp rfl rfl rfl (at_ok l a _ (by omega)) ?_)
    rintro _ rfl
    refine g_step rfl (s_val (v_move rfl) rfl rfl ?_)
    refine g_step rfl (s_val (v_move rfl) rfl rfl ?_)
    refine g_step rfl (s_callp rfl rfl rfl (at_ok l b _ (by omega)) ?_)
    rintro _ rfl
    refine g_step rfl (s_val (v_assign rfl) rfl rfl ?_)
    refine g_step rfl (s_val (v_assign rfl) rfl rfl ?_)
    refine g_nil ?_
    refine g_next hK4 ?_
    refine g_cut (fun env L B G => ∃ (ia ib : Nat), env = [(0, encRs l), (3, .int .i64 least), (10, .int .i64 (ia : Int)), (11, .int .i64 (ib : Int))] ∧ L = [] ∧ B = [] ∧ H = G ∧ srt l = true ∧ atZ l a = (ia : Int) ∧ ia < l.length ∧ atZ l b = (ib : Int) ∧ ib < l.length) ?_ (fun env L B G hI => ?_)
    · skip
      refine g_seq (fun K5 hK5 => ?_)
      refine g_region ?_
      refine g_step rfl (s_val (v_move rfl) rfl rfl ?_)
      refine g_step rfl (s_val (v_lss rfl rfl) rfl rfl ?_)
      refine g_step rfl (s_val (v_move rfl) rfl rfl ?_)
      refine g_split 27 rfl (fun hg27 => ?_) (fun hg27 => ?_)
      · try simp only [decide_eq_true_eq, decide_eq_false_iff_not, Bool.not_eq_true', Bool.not_eq_false', Bool.not_eq_eq_eq_not, Bool.not_true, Bool.not_false, Bool.and_eq_true, Bool.or_eq_true, Bool.or_eq_false_iff, beq_iff_eq, beq_eq_false_iff_ne, ne_eq, Int.not_lt, Int.not_le, Decidable.not_not] at hg27
        refine g_step_no (j := 2) (t := 27) rfl rfl rfl rfl rfl rfl rfl ?_
        refine g_step_no (j := 2) (t := 27) rfl rfl rfl rfl rfl rfl rfl ?_
        refine g_step rfl (s_val (v_pick_t rfl rfl) rfl rfl ?_)
        refine g_nil ?_
        refine g_next hK5 ?_
        refine g_cond rfl (fun _ => ?_) (fun h => by cases h)
        refine g_seq (fun K6 hK6 => ?_)
        refine g_region ?_
        refine g_step rfl (s_val (v_assign rfl) rfl rfl ?_)
        refine g_step rfl (s_val (v_assign rfl) rfl rfl ?_)
        refine g_nil ?_
        refine g_next hK6 ?_
        refine g_ret ?_
        refine g_then_ret ?_
        refine g_end2 (.inl rfl) Try.results79 (.tmp rfl) (.tmp rfl) [] (ASub.tup (m := [.imm [], .bool false]) ⟨ASub.nil0, ASub.refl _, trivial⟩) (AHeap.sub_refl _) (fun p hp => by cases hp) ⟨rfl, ?_⟩
        first | (rw [pathR_out (by simp_all)]; rfl; done) | (rw [pathR_out (by simp_all)]; rfl; rfl)
      · try simp only [decide_eq_true_eq, decide_eq_false_iff_not, Bool.not_eq_true', Bool.not_eq_false', Bool.not_eq_eq_eq_not, Bool.not_true, Bool.not_false, Bool.and_eq_true, Bool.or_eq_true, Bool.or_eq_false_iff, beq_iff_eq, beq_eq_false_iff_ne, ne_eq, Int.not_lt, Int.not_le, Decidable.not_not] at hg27
        refine g_step_yes (j := 2) (t := 27) rfl rfl rfl rfl (s_val (v_move rfl) rfl rfl ?_)
        refine g_step_yes (j := 2) (t := 27) rfl rfl rfl rfl (s_val (v_lss rfl rfl) rfl rfl ?_)
        refine g_step rfl (s_val (v_pick_f rfl rfl) rfl rfl ?_)
        refine g_nil ?_
        refine g_next hK5 ?_
        refine g_cond rfl (fun hc30 => ?_) (fun hc30 => ?_)
        · try simp only [decide_eq_true_eq, decide_eq_false_iff_not, Bool.not_eq_true', Bool.not_eq_false', Bool.not_eq_eq_eq_not, Bool.not_true, Bool.not_false, Bool.and_eq_true, Bool.or_eq_true, Bool.or_eq_false_iff, beq_iff_eq, beq_eq_false_iff_ne, ne_eq, Int.not_lt, Int.not_le, Decidable.not_not] at hc30
          refine g_seq (fun K7 hK7 => ?_)
          refine g_region ?_
          refine g_step rfl (s_val (v_assign rfl) rfl rfl ?_)
          refine g_step rfl (s_val (v_assign rfl) rfl rfl ?_)
          refine g_nil ?_
          refine g_next hK7 ?_
          refine g_ret ?_
          refine g_then_ret ?_
          refine g_end2 (.inl rfl) Try.results79 (.tmp rfl) (.tmp rfl) [] (ASub.tup (m := [.imm [], .bool false]) ⟨ASub.nil0, ASub.refl _, trivial⟩) (AHeap.sub_refl _) (fun p hp => by cases hp) ⟨rfl, ?_⟩
          first | (rw [pathR_out (by simp_all)]; rfl; done) | (rw [pathR_out (by simp_all)]; rfl; rfl)
        · try simp only [decide_eq_true_eq, decide_eq_false_iff_not, Bool.not_eq_true', Bool.not_eq_false', Bool.not_eq_eq_eq_not, Bool.not_true, Bool.not_false, Bool.and_eq_true, Bool.or_eq_true, Bool.or_eq_false_iff, beq_iff_eq, beq_eq_false_iff_ne, ne_eq, Int.not_lt, Int.not_le, Decidable.not_not] at hc30
          obtain ⟨ia, xa, ha1, ha2, ha3, _⟩ := atZ_some (l := l) (a := a) (by omega)
          obtain ⟨ib, xb, hb1, hb2, hb3, _⟩ := atZ_some (l := l) (a := b) (by omega)
          rw [ha1, hb1]
          refine g_skip ?_
          first | refine g_keep [0, 3, 10, 11] [] [] (keep_cons rfl (keep_cons rfl (keep_cons rfl (keep_cons rfl keep_nil)))) lkeep_nil keep_nil rfl ?_ | refine g_keep [0, 3, 10, 11] [] [] rfl rfl rfl rfl ?_
          exact g_has ⟨ia, ib, rfl, rfl, rfl, rfl, ⟨by simp_all, by first | exact ha1 | rfl, ha2, by first | exact hb1 | rfl, hb2⟩⟩
    · skip
      obtain ⟨ia, ib, rfl, rfl, rfl, rfl, hsr, ha1, ha2, hb1, hb2⟩ := hI
      refine g_seq (fun K8 hK8 => ?_)
      refine g_region ?_
      refine g_step rfl (s_val (v_move rfl) rfl rfl ?_)
      refine g_step rfl (s_val (v_move rfl) rfl rfl ?_)
      refine g_step rfl (s_val (v_move rfl) rfl rfl ?_)
      refine g_step rfl (s_callp rfl rfl rfl (far_ok l ib least _ hl hb2) ?_)
      rintro _ rfl
      refine g_step rfl (s_val (v_assign rfl) rfl rfl ?_)
      refine g_nil ?_
      refine g_next hK8 ?_
      refine g_seq (fun K9 hK9 => ?_)
      refine g_seq (fun K10 hK10 => ?_)
      refine g_region ?_
      refine g_step rfl (s_val (v_move rfl) rfl rfl ?_)
      refine g_step rfl (s_val (v_move rfl) rfl rfl ?_)
      refine g_step rfl (s_val (v_indexAddr ty27 ty3 rfl rfl (by first | rfl | assumption) (by first | rfl | exact (rfl : (0 : Int) = ((0 : Nat) : Int)) | exact (Int.toNat_of_nonneg (by omega)).symm) (map_get (farP_get ha2)) rfl) rfl rfl ?_)
      refine g_step rfl (s_val (by first | exact v_load ty3 rfl rfl (by first | rfl | assumption) (map_get (farP_get ha2)) rfl | exact v_load_box ty3 rfl rfl (by assumption) rfl) rfl rfl ?_)
      refine g_step rfl (s_val (v_lss rfl rfl) rfl rfl ?_)
      refine g_nil ?_
      refine g_next hK10 ?_
      refine g_cond rfl (fun hc39 => ?_) (fun hc39 => ?_)
      · try simp only [decide_eq_true_eq, decide_eq_false_iff_not, Bool.not_eq_true', Bool.not_eq_false', Bool.not_eq_eq_eq_not, Bool.not_true, Bool.not_false, Bool.and_eq_true, Bool.or_eq_true, Bool.or_eq_false_iff, beq_iff_eq, beq_eq_false_iff_ne, ne_eq, Int.not_lt, Int.not_le, Decidable.not_not] at hc39
        refine g_seq (fun K11 hK11 => ?_)
        refine g_region ?_
        refine g_step rfl (s_val (v_assign rfl) rfl rfl ?_)
        refine g_step rfl (s_val (v_assign rfl) rfl rfl ?_)
        refine g_nil ?_
        refine g_next hK11 ?_
        refine g_ret ?_
        refine g_then_ret ?_
        refine g_end2 (.inl rfl) Try.results79 (.tmp rfl) (.tmp rfl) [] (ASub.tup (m := [.imm [], .bool false]) ⟨ASub.nil0, ASub.refl _, trivial⟩) (AHeap.sub_refl _) (fun p hp => by cases hp) ⟨rfl, ?_⟩
        first | (rw [pathR_no hsr ha1 hb1 hc39]; rfl; done) | (rw [pathR_no hsr ha1 hb1 hc39]; rfl; rfl)
      · try simp only [decide_eq_true_eq, decide_eq_false_iff_not, Bool.not_eq_true', Bool.not_eq_false', Bool.not_eq_eq_eq_not, Bool.not_true, Bool.not_false, Bool.and_eq_true, Bool.or_eq_true, Bool.or_eq_false_iff, beq_iff_eq, beq_eq_false_iff_ne, ne_eq, Int.not_lt, Int.not_le, Decidable.not_not] at hc39
        obtain ⟨D, hD⟩ := Int.eq_ofNat_of_zero_le (show 0 ≤ ds l least ib ia by omega)
        have hDl := ds_lt (least := least) hb2 ha2
        refine g_skip ?_
        refine g_next hK9 ?_
        refine g_seq (fun K12 hK12 => ?_)
        refine g_region ?_
        refine g_step rfl (s_val (v_assign rfl) rfl rfl ?_)
        refine g_nil ?_
        refine g_next hK12 ?_
        refine g_seq (fun K13 hK13 => ?_)
        refine g_block ?_
        first | refine g_keep [0, 3, 10, 12, 13] [] [] (keep_cons rfl (keep_cons rfl (keep_cons rfl (keep_cons rfl (keep_cons rfl keep_nil))))) lkeep_nil keep_nil rfl ?_ | refine g_keep [0, 3, 10, 12, 13] [] [] rfl rfl rfl rfl ?_
        refine g_loop (fun n env L B G => ∃ (i : Nat) (av : AV) (acc : List Hop), env = [(0, encRs l), (3, .int .i64 least), (10, .int .i64 (i : Int)), (12, .imm ((farP l ib least).map (.int .i64))), (13, av)] ∧ L = [] ∧ B = [] ∧ Own w0.heap.size 2 H av (acc.map encH) G ∧ i < l.length ∧ ds l least ib i = (n : Int) ∧ acc ++ walk l least ib n i = walk l least ib D ia ∧ acc.length + n = D) D ⟨ia, .nil0, [], rfl, rfl, rfl, Own.nil .., ha2, hD, rfl, by simp⟩ (fun n env L B G hI => ?_)
        obtain ⟨i, av, acc, rfl, rfl, rfl, hown, hi, hds, hacc, hal⟩ := hI
        obtain ⟨xi, hxi⟩ := get_some hi
        refine g_seq (fun K14 hK14 => ?_)
        refine g_seq (fun K15 hK15 => ?_)
        refine g_region ?_
        refine g_step rfl (s_val (v_move rfl) rfl rfl ?_)
        refine g_step rfl (s_val (v_move rfl) rfl rfl ?_)
        refine g_step rfl (s_val (v_indexAddr ty27 ty3 rfl rfl (by first | rfl | assumption) (by first | rfl | exact (rfl : (0 : Int) = ((0 : Nat) : Int)) | exact (Int.toNat_of_nonneg (by omega)).symm) (map_get (farP_get hi)) rfl) rfl rfl ?_)
        refine g_step rfl (s_val (by first | exact v_load ty3 rfl rfl (by first | rfl | assumption) (map_get (farP_get hi)) rfl | exact v_load_box ty3 rfl rfl (by assumption) rfl) rfl rfl ?_)
        refine g_step rfl (s_val (v_gtr rfl rfl) rfl rfl ?_)
        refine g_nil ?_
        refine g_next hK15 ?_
        refine g_cond rfl (fun hc44 => ?_) (fun hc44 => ?_)
        · try simp only [decide_eq_true_eq, decide_eq_false_iff_not, Bool.not_eq_true', Bool.not_eq_false', Bool.not_eq_eq_eq_not, Bool.not_true, Bool.not_false, Bool.and_eq_true, Bool.or_eq_true, Bool.or_eq_false_iff, beq_iff_eq, beq_eq_false_iff_ne, ne_eq, Int.not_lt, Int.not_le, Decidable.not_not] at hc44
          obtain ⟨m, hm⟩ : ∃ m, n = m + 1 := ⟨n - 1, by omega⟩
          obtain ⟨kn, hkn, hknl, hadj, hkd, hmin⟩ := next_some (least := least) hb2 hi (by omega)
          have hnt : nearer l least ib i kn = true := by rw [nearer, hadj, hkd]; simp
          refine g_skip ?_
          refine g_next hK14 ?_
          refine g_block ?_
          refine g_seq (fun K16 hK16 => ?_)
          refine g_region ?_
          refine g_step rfl (s_val (v_move rfl) rfl rfl ?_)
          refine g_step rfl (s_val (v_len ty22 rfl (by first | rfl | assumption) (by first | exact List.length_map .. | rfl)) rfl rfl ?_)
          refine g_step rfl (s_val (v_move rfl) rfl rfl ?_)
          refine g_nil ?_
          refine g_next hK16 ?_
          refine g_block ?_
          first | refine g_keep [0, 3, 10, 12, 13, 46, 47] [] [] (keep_cons rfl (keep_cons rfl (keep_cons rfl (keep_cons rfl (keep_cons rfl (keep_cons rfl (keep_cons rfl keep_nil))))))) lkeep_nil keep_nil rfl ?_ | refine g_keep [0, 3, 10, 12, 13, 46, 47] [] [] rfl rfl rfl rfl ?_
          refine g_loop (fun n env L B G => ∃ (k : Nat) , k ≤ l.length ∧ n = l.length - k ∧ env = [(0, (encRs l)), (3, .int .i64 least), (10, .int .i64 (i : Int)), (12, .imm ((farP l ib least).map (.int .i64))), (13, av), (46, .int .i64 (l.length : Int)), (47, .int .i64 (k : Int))] ∧ L = [] ∧ B = [] ∧ k ≤ kn ∧ Own w0.heap.size 2 H av (acc.map encH) G) (l.length) ⟨0, Nat.zero_le _, rfl, rfl, rfl, rfl, ⟨Nat.zero_le _, hown⟩⟩ (fun n env L B G hI => ?_)
          obtain ⟨k, hk, rfl, rfl, rfl, rfl, hkk, hown⟩ := hI
          refine g_seq (fun K17 hK17 => ?_)
          refine g_region ?_
          refine g_step rfl (s_val (v_lss rfl rfl) rfl rfl ?_)
          refine g_nil ?_
          refine g_next hK17 ?_
          refine g_seq (fun K18 hK18 => ?_)
          refine g_cond rfl (fun hc48 => ?_) (fun hc48 => ?_)
          · try simp only [decide_eq_true_eq, decide_eq_false_iff_not, Bool.not_eq_true', Bool.not_eq_false', Bool.not_eq_eq_eq_not, Bool.not_true, Bool.not_false, Bool.and_eq_true, Bool.or_eq_true, Bool.or_eq_false_iff, beq_iff_eq, beq_eq_false_iff_ne, ne_eq, Int.not_lt, Int.not_le, Decidable.not_not] at hc48
            obtain ⟨x, hx⟩ := get_some (l := l) (k := k) (by omega)
            refine g_skip ?_
            refine g_next hK18 ?_
            refine g_seq (fun K19 hK19 => ?_)
            refine g_block ?_
            refine g_seq (fun K20 hK20 => ?_)
            refine g_region ?_
            refine g_step rfl (s_val (v_move rfl) rfl rfl ?_)
            refine g_step rfl (s_val (v_assign rfl) rfl rfl ?_)
            refine g_nil ?_
            refine g_next hK20 ?_
            refine g_seq (fun K21 hK21 => ?_)
            refine g_draw (n := 10) (fun j => !([] : List Nat).contains j) rfl rfl ?_
            refine m_take 0 false rfl rfl (by kernel_rfl) (by kernel_rfl) (by kernel_rfl) (fun _ _ _ _ h => h) (v_move rfl) rfl rfl ?_
            refine m_take 1 false rfl rfl (by kernel_rfl) (by kernel_rfl) (by kernel_rfl) (fun _ _ _ _ h => h) (v_move rfl) rfl rfl ?_
            refine m_take 2 false rfl rfl (by kernel_rfl) (by kernel_rfl) (by kernel_rfl) (fun _ _ _ _ h => h) (v_indexAddr ty22 ty32 rfl rfl (by first | rfl | assumption) (by first | rfl | exact (rfl : (0 : Int) = ((0 : Nat) : Int)) | exact (Int.toNat_of_nonneg (by omega)).symm) (map_get hxi) rfl) rfl rfl ?_
            refine m_take 3 true rfl rfl (by kernel_rfl) (by kernel_rfl) (by kernel_rfl) (fun _ _ _ _ h => h) (by first | exact v_load_elt ty32 rfl rfl (by first | rfl | assumption) (map_get hxi) rfl rfl | exact v_load_box_all ty32 rfl rfl (by assumption) rfl rfl | exact v_load_part (cs := [_, _, _, _, _, _, _]) ty32 rfl rfl (by first | rfl | assumption) (map_get hxi) rfl rfl rfl | exact v_load_box_part (cs := [_, _, _, _, _, _, _]) ty32 rfl rfl (by assumption) rfl rfl rfl) rfl rfl ?_
            refine m_take 4 false rfl rfl (by kernel_rfl) (by kernel_rfl) (by kernel_rfl) (fun _ _ _ _ h => h) (v_move rfl) rfl rfl ?_
            refine m_take 5 false rfl rfl (by kernel_rfl) (by kernel_rfl) (by kernel_rfl) (fun _ _ _ _ h => h) (v_move rfl) rfl rfl ?_
            refine m_take 6 false rfl rfl (by kernel_rfl) (by kernel_rfl) (by kernel_rfl) (fun _ _ _ _ h => h) (v_indexAddr ty22 ty32 rfl rfl (by first | rfl | assumption) (by first | rfl | exact (rfl : (0 : Int) = ((0 : Nat) : Int)) | exact (Int.toNat_of_nonneg (by omega)).symm) (map_get hx) rfl) rfl rfl ?_
            refine m_take 7 true rfl rfl (by kernel_rfl) (by kernel_rfl) (by kernel_rfl) (fun _ _ _ _ h => h) (by first | exact v_load_elt ty32 rfl rfl (by first | rfl | assumption) (map_get hx) rfl rfl | exact v_load_box_all ty32 rfl rfl (by assumption) rfl rfl | exact v_load_part (cs := [_, _, _, _, _, _, _]) ty32 rfl rfl (by first | rfl | assumption) (map_get hx) rfl rfl rfl | exact v_load_box_part (cs := [_, _, _, _, _, _, _]) ty32 rfl rfl (by assumption) rfl rfl rfl) rfl rfl ?_
            refine m_one 8 (by kernel_rfl) rfl rfl ?_
            refine sm_callp rfl rfl rfl (link_ok xi x _) ?_
            rintro _ rfl
            refine m_take 9 false rfl rfl (by kernel_rfl) (by kernel_rfl) (by kernel_rfl) (fun _ _ _ _ h => h) (v_assign rfl) rfl rfl ?_
            refine m_done (by kernel_rfl) ?_
            refine g_next hK21 ?_
            refine g_seq (fun K22 hK22 => ?_)
            refine g_draw (n := 15) (fun j => !([] : List Nat).contains j) rfl rfl ?_
            refine m_take 0 false rfl rfl (by kernel_rfl) (by kernel_rfl) (by kernel_rfl) (fun _ _ _ _ h => h) (v_move rfl) rfl rfl ?_
            refine m_take 1 false rfl rfl (by kernel_rfl) (by kernel_rfl) (by kernel_rfl) (fun _ _ _ _ h => h) (v_move rfl) rfl rfl ?_
            refine m_take 2 false rfl rfl (by kernel_rfl) (by kernel_rfl) (by kernel_rfl) (fun _ _ _ _ h => h) (v_geq rfl rfl) rfl rfl ?_
            refine m_take 3 false rfl rfl (by kernel_rfl) (by kernel_rfl) (by kernel_rfl) (fun _ _ _ _ h => h) (v_move rfl) rfl rfl ?_
            refine m_split 62 rfl (fun hg62 => ?_) (fun hg62 => ?_)
            · try simp only [decide_eq_true_eq, decide_eq_false_iff_not, Bool.not_eq_true', Bool.not_eq_false', Bool.not_eq_eq_eq_not, Bool.not_true, Bool.not_false, Bool.and_eq_true, Bool.or_eq_true, Bool.or_eq_false_iff, beq_iff_eq, beq_eq_false_iff_ne, ne_eq, Int.not_lt, Int.not_le, Decidable.not_not] at hg62
              refine m_take_yes (j := 3) (t := 62) 4 false rfl rfl rfl rfl rfl (by kernel_rfl) (by kernel_rfl) (by kernel_rfl) (fun _ _ _ _ h => h) (v_move rfl) rfl rfl ?_
              refine m_take_yes (j := 3) (t := 62) 5 false rfl rfl rfl rfl rfl (by kernel_rfl) (by kernel_rfl) (by kernel_rfl) (fun _ _ _ _ h => h) (v_move rfl) rfl rfl ?_
              refine m_take_yes (j := 3) (t := 62) 6 false rfl rfl rfl rfl rfl (by kernel_rfl) (by kernel_rfl) (by kernel_rfl) (fun _ _ _ _ h => h) (v_indexAddr ty27 ty3 rfl rfl (by first | rfl | assumption) (by first | rfl | exact (rfl : (0 : Int) = ((0 : Nat) : Int)) | exact (Int.toNat_of_nonneg (by omega)).symm) (map_get (farP_get (by omega))) rfl) rfl rfl ?_
              refine m_take_yes (j := 3) (t := 62) 7 true rfl rfl rfl rfl rfl (by kernel_rfl) (by kernel_rfl) (by kernel_rfl) (fun _ _ _ _ h => h) (by first | exact v_load ty3 rfl rfl (by first | rfl | assumption) (map_get (farP_get (by omega))) rfl | exact v_load_box ty3 rfl rfl (by assumption) rfl) rfl rfl ?_
              refine m_take_yes (j := 3) (t := 62) 8 false rfl rfl rfl rfl rfl (by kernel_rfl) (by kernel_rfl) (by kernel_rfl) (fun _ _ _ _ h => h) (v_move rfl) rfl rfl ?_
              refine m_take_yes (j := 3) (t := 62) 9 false rfl rfl rfl rfl rfl (by kernel_rfl) (by kernel_rfl) (by kernel_rfl) (fun _ _ _ _ h => h) (v_move rfl) rfl rfl ?_
              refine m_take_yes (j := 3) (t := 62) 10 false rfl rfl rfl rfl rfl (by kernel_rfl) (by kernel_rfl) (by kernel_rfl) (fun _ _ _ _ h => h) (v_indexAddr ty27 ty3 rfl rfl (by first | rfl | assumption) (by first | rfl | exact (rfl : (0 : Int) = ((0 : Nat) : Int)) | exact (Int.toNat_of_nonneg (by omega)).symm) (map_get (farP_get hi)) rfl) rfl rfl ?_
              refine m_take_yes (j := 3) (t := 62) 11 true rfl rfl rfl rfl rfl (by kernel_rfl) (by kernel_rfl) (by kernel_rfl) (fun _ _ _ _ h => h) (by first | exact v_load ty3 rfl rfl (by first | rfl | assumption) (map_get (farP_get hi)) rfl | exact v_load_box ty3 rfl rfl (by assumption) rfl) rfl rfl ?_
              refine m_take_yes (j := 3) (t := 62) 12 false rfl rfl rfl rfl rfl (by kernel_rfl) (by kernel_rfl) (by kernel_rfl) (fun _ _ _ _ h => h) (v_sub_ rfl rfl (by omega)) rfl rfl ?_
              refine m_take_yes (j := 3) (t := 62) 13 false rfl rfl rfl rfl rfl (by kernel_rfl) (by kernel_rfl) (by kernel_rfl) (fun _ _ _ _ h => h) (v_eql rfl rfl) rfl rfl ?_
              refine m_take 14 false rfl rfl (by kernel_rfl) (by kernel_rfl) (by kernel_rfl) (fun _ _ _ _ h => h) (v_pick_t rfl rfl) rfl rfl ?_
              refine m_done (by kernel_rfl) ?_
              refine g_next hK22 ?_
              first | refine g_keep [0, 3, 10, 12, 13, 14, 15, 46, 47, 73] [] [] (keep_cons rfl (keep_cons rfl (keep_cons rfl (keep_cons rfl (keep_cons rfl (keep_cons rfl (keep_cons rfl (keep_cons rfl (keep_cons rfl (keep_cons rfl keep_nil)))))))))) lkeep_nil keep_nil rfl ?_ | refine g_keep [0, 3, 10, 12, 13, 14, 15, 46, 47, 73] [] [] rfl rfl rfl rfl ?_
              refine g_cond rfl (fun hc73 => ?_) (fun hc73 => ?_)
              · try simp only [decide_eq_true_eq, decide_eq_false_iff_not, Bool.not_eq_true', Bool.not_eq_false', Bool.not_eq_eq_eq_not, Bool.not_true, Bool.not_false, Bool.and_eq_true, Bool.or_eq_true, Bool.or_eq_false_iff, beq_iff_eq, beq_eq_false_iff_ne, ne_eq, Int.not_lt, Int.not_le, Decidable.not_not] at hc73
                have hnr : nearer l least ib i k = true := by rw [nearer_eq hxi hx, decide_eq_true (by omega), decide_eq_true (by omega)]; rfl
                obtain rfl : k = kn := Nat.le_antisymm hkk (Nat.le_of_not_lt fun g => by rw [hmin k g] at hnr; cases hnr)
                refine g_seq (fun K23 hK23 => ?_)
                refine g_region ?_
                refine g_step rfl (s_val (v_move rfl) rfl rfl ?_)
                refine g_step rfl (s_val (v_move rfl) rfl rfl ?_)
                refine g_step rfl (s_val (v_move rfl) rfl rfl ?_)
                refine g_step rfl (s_val (v_indexAddr ty22 ty32 rfl rfl (by first | rfl | assumption) (by first | rfl | exact (rfl : (0 : Int) = ((0 : Nat) : Int)) | exact (Int.toNat_of_nonneg (by omega)).symm) (map_get hx) rfl) rfl rfl ?_)
                refine g_step rfl (s_val (by first | exact v_fieldAddr ty32 fo32_0 ty3 rfl | exact v_fieldAddr_box ty32 fo32_0 ty3 rfl) rfl rfl ?_)
                refine g_step rfl (s_val (by first | exact v_load ty3 rfl rfl (by first | rfl | assumption) (map_get hx) rfl | exact v_load_box ty3 rfl rfl (by assumption) rfl) rfl rfl ?_)
                refine g_step rfl (s_val (v_move rfl) rfl rfl ?_)
                refine g_step rfl (s_val (v_sub (b := (encH ⟨x.id, lnk xi x⟩)) (v_build (vs := [(0, _), (1, _)]) (zs := [(.int .i64 0), (.int .i64 0)]) (cells := [_, _]) ty81 pl81 rfl rfl rfl) (ASub.of_wk rfl)) rfl rfl ?_)
                refine g_step rfl (s_lit ty69 ty81 rfl rfl rfl rfl rfl rfl rfl ?_)
                refine g_step rfl (s_append (l := (acc.map encH)) (m := ([(⟨x.id, lnk xi x⟩ : Hop)].map encH)) ty69 ty81 rfl rfl hown rfl rfl (by refine Even.map _ ?_ _; intro _; rfl) (by intro x hx; obtain ⟨_, _, rfl⟩ := List.mem_map.1 hx; rfl) rfl (by simp; omega) (by simp; omega) ?_)
                intro av83 G83 hown83
                refine g_step rfl (s_val (v_assign rfl) rfl rfl ?_)
                refine g_nil ?_
                refine g_next hK23 ?_
                refine g_seq (fun K24 hK24 => ?_)
                refine g_region ?_
                refine g_step rfl (s_val (v_move rfl) rfl rfl ?_)
                refine g_step rfl (s_val (v_assign rfl) rfl rfl ?_)
                refine g_nil ?_
                refine g_next hK24 ?_
                refine g_exit ?_
                refine g_block_other rfl ?_
                refine g_then_exit ?_
                refine g_then_exit ?_
                refine g_block_same ?_
                refine g_block_normal ?_
                first | refine g_keep [0, 3, 10, 12, 13] [] [] (keep_cons rfl (keep_cons rfl (keep_cons rfl (keep_cons rfl (keep_cons rfl keep_nil))))) lkeep_nil keep_nil rfl ?_ | refine g_keep [0, 3, 10, 12, 13] [] [] rfl rfl rfl rfl ?_
                exact g_round m (by omega) ⟨k, av83, acc ++ [⟨x.id, lnk xi x⟩], rfl, rfl, rfl, by rw [List.map_append]; exact hown83, hknl, by rw [hkd, hds]; push_cast; omega, by rw [← hacc, hm, walk_next hkn, rat_eq hxi, rat_eq hx, List.append_assoc]; rfl, by rw [List.length_append]; simp; omega⟩
              · try simp only [decide_eq_true_eq, decide_eq_false_iff_not, Bool.not_eq_true', Bool.not_eq_false', Bool.not_eq_eq_eq_not, Bool.not_true, Bool.not_false, Bool.and_eq_true, Bool.or_eq_true, Bool.or_eq_false_iff, beq_iff_eq, beq_eq_false_iff_ne, ne_eq, Int.not_lt, Int.not_le, Decidable.not_not] at hc73
                have hnr : nearer l least ib i k = false := by first | assumption | (rw [nearer_eq hxi hx, decide_eq_false (p := ds l least ib k = _) (by omega), Bool.and_false])
                refine g_skip ?_
                refine g_block_normal ?_
                refine g_next hK19 ?_
                refine g_region ?_
                refine g_step rfl (s_val (v_add rfl rfl (by omega)) rfl rfl ?_)
                refine g_step rfl (s_val (v_move rfl) rfl rfl ?_)
                refine g_nil ?_
                first | refine g_keep [0, 3, 10, 12, 13, 46, 47] [] [] (keep_cons rfl (keep_cons rfl (keep_cons rfl (keep_cons rfl (keep_cons rfl (keep_cons rfl (keep_cons rfl keep_nil))))))) lkeep_nil keep_nil rfl ?_ | refine g_keep [0, 3, 10, 12, 13, 46, 47] [] [] rfl rfl rfl rfl ?_
                exact g_round _ (by omega) ⟨k + 1, by omega, rfl, rfl, rfl, rfl, ⟨Nat.lt_of_le_of_ne hkk (fun e => by rw [← e, hnr] at hnt; cases hnt), hown⟩⟩
            · try simp only [decide_eq_true_eq, decide_eq_false_iff_not, Bool.not_eq_true', Bool.not_eq_false', Bool.not_eq_eq_eq_not, Bool.not_true, Bool.not_false, Bool.and_eq_true, Bool.or_eq_true, Bool.or_eq_false_iff, beq_iff_eq, beq_eq_false_iff_ne, ne_eq, Int.not_lt, Int.not_le, Decidable.not_not] at hg62
              have hnr : nearer l least ib i k = false := by rw [nearer_eq hxi hx, decide_eq_false (by omega), Bool.false_and]
              refine m_take_no (j := 3) (t := 62) 4 rfl rfl rfl rfl rfl rfl (by kernel_rfl) (by kernel_rfl) (by kernel_rfl) (fun _ _ _ _ h => h) rfl rfl ?_
              refine m_take_no (j := 3) (t := 62) 5 rfl rfl rfl rfl rfl rfl (by kernel_rfl) (by kernel_rfl) (by kernel_rfl) (fun _ _ _ _ h => h) rfl rfl ?_
              refine m_take_no (j := 3) (t := 62) 6 rfl rfl rfl rfl rfl rfl (by kernel_rfl) (by kernel_rfl) (by kernel_rfl) (fun _ _ _ _ h => h) rfl rfl ?_
              refine m_take_no (j := 3) (t := 62) 7 rfl rfl rfl rfl rfl rfl (by kernel_rfl) (by kernel_rfl) (by kernel_rfl) (fun _ _ _ _ h => h) rfl rfl ?_
              refine m_take_no (j := 3) (t := 62) 8 rfl rfl rfl rfl rfl rfl (by kernel_rfl) (by kernel_rfl) (by kernel_rfl) (fun _ _ _ _ h => h) rfl rfl ?_
              refine m_take_no (j := 3) (t := 62) 9 rfl rfl rfl rfl rfl rfl (by kernel_rfl) (by kernel_rfl) (by kernel_rfl) (fun _ _ _ _ h => h) rfl rfl ?_
              refine m_take_no (j := 3) (t := 62) 10 rfl rfl rfl rfl rfl rfl (by kernel_rfl) (by kernel_rfl) (by kernel_rfl) (fun _ _ _ _ h => h) rfl rfl ?_
              refine m_take_no (j := 3) (t := 62) 11 rfl rfl rfl rfl rfl rfl (by kernel_rfl) (by kernel_rfl) (by kernel_rfl) (fun _ _ _ _ h => h) rfl rfl ?_
              refine m_take_no (j := 3) (t := 62) 12 rfl rfl rfl rfl rfl rfl (by kernel_rfl) (by kernel_rfl) (by kernel_rfl) (fun _ _ _ _ h => h) rfl rfl ?_
              refine m_take_no (j := 3) (t := 62) 13 rfl rfl rfl rfl rfl rfl (by kernel_rfl) (by kernel_rfl) (by kernel_rfl) (fun _ _ _ _ h => h) rfl rfl ?_
              refine m_take 14 false rfl rfl (by kernel_rfl) (by kernel_rfl) (by kernel_rfl) (fun _ _ _ _ h => h) (v_pick_f rfl rfl) rfl rfl ?_
              refine m_done (by kernel_rfl) ?_
              refine g_next hK22 ?_
              first | refine g_keep [0, 3, 10, 12, 13, 14, 15, 46, 47, 73] [] [] (keep_cons rfl (keep_cons rfl (keep_cons rfl (keep_cons rfl (keep_cons rfl (keep_cons rfl (keep_cons rfl (keep_cons rfl (keep_cons rfl (keep_cons rfl keep_nil)))))))))) lkeep_nil keep_nil rfl ?_ | refine g_keep [0, 3, 10, 12, 13, 14, 15, 46, 47, 73] [] [] rfl rfl rfl rfl ?_
              refine g_cond rfl (fun h => by cases h) (fun _ => ?_)
              refine g_skip ?_
              refine g_block_normal ?_
              refine g_next hK19 ?_
              refine g_region ?_
              refine g_step rfl (s_val (v_add rfl rfl (by omega)) rfl rfl ?_)
              refine g_step rfl (s_val (v_move rfl) rfl rfl ?_)
              refine g_nil ?_
              first | refine g_keep [0, 3, 10, 12, 13, 46, 47] [] [] (keep_cons rfl (keep_cons rfl (keep_cons rfl (keep_cons rfl (keep_cons rfl (keep_cons rfl (keep_cons rfl keep_nil))))))) lkeep_nil keep_nil rfl ?_ | refine g_keep [0, 3, 10, 12, 13, 46, 47] [] [] rfl rfl rfl rfl ?_
              exact g_round _ (by omega) ⟨k + 1, by omega, rfl, rfl, rfl, rfl, ⟨Nat.lt_of_le_of_ne hkk (fun e => by rw [← e, hnr] at hnt; cases hnt), hown⟩⟩
          · exfalso; (try simp only [decide_eq_true_eq, decide_eq_false_iff_not, Bool.not_eq_true', Bool.not_eq_false', Bool.not_eq_eq_eq_not, Bool.not_true, Bool.not_false, Bool.and_eq_true, Bool.or_eq_true, Bool.or_eq_false_iff, beq_iff_eq, beq_eq_false_iff_ne, ne_eq, Int.not_lt, Int.not_le, Decidable.not_not] at hc48); omega
        · try simp only [decide_eq_true_eq, decide_eq_false_iff_not, Bool.not_eq_true', Bool.not_eq_false', Bool.not_eq_eq_eq_not, Bool.not_true, Bool.not_false, Bool.and_eq_true, Bool.or_eq_true, Bool.or_eq_false_iff, beq_iff_eq, beq_eq_false_iff_ne, ne_eq, Int.not_lt, Int.not_le, Decidable.not_not] at hc44
          refine g_exit ?_
          refine g_then_exit ?_
          refine g_then_exit ?_
          refine g_block_same ?_
          refine g_next hK13 ?_
          refine g_seq (fun K25 hK25 => ?_)
          refine g_region ?_
          obtain rfl : n = 0 := by omega
          refine g_freeze 13 rfl hown ?_
          refine g_step rfl (s_val (v_move rfl) rfl rfl ?_)
          refine g_step rfl (s_val (v_assign rfl) rfl rfl ?_)
          refine g_step rfl (s_val (v_assign rfl) rfl rfl ?_)
          refine g_nil ?_
          refine g_next hK25 ?_
          refine g_ret ?_
          refine g_end2 (.inl rfl) Try.results79 (.tmp rfl) (.tmp rfl) [] (ASub.refl _) (AHeap.sub_refl _) (fun p hp => by cases hp) ⟨rfl, ?_⟩
          first | (rw [pathR_yes hsr ha1 hb1 hD, ← hacc]; simp [walk]; done) | (rw [pathR_yes hsr ha1 hb1 hD, ← hacc]; simp [walk]; rfl)

theorem Path_ok (l : List Rc) (a b : Int) (G : AHeap) (hl : l.length ≤ 1000) (hs : ∀ x ∈ l, Small x.bag) : PCalls Try.prog 42 [encRs l, .int .i64 a, .int .i64 b] G (fun v => v = .tup [.imm ((pathR l a b 1).1.map encH), .bool (pathR l a b 1).2]) := by
  refine LCalls.intro 14 fi42 rfl Try.ntmps42 rfl (fun _ h => h.elim) (fun H hH w0 hw0 => ?_)
  refine g_seq (fun K0 hK0 => ?_)
  refine g_region ?_
  refine g_step rfl (s_val (v_assign rfl) rfl rfl ?_)
  refine g_step rfl (s_val (v_assign rfl) rfl rfl ?_)
  refine g_nil ?_
  refine g_next hK0 ?_
  refine g_seq (fun K1 hK1 => ?_)
  refine g_region ?_
  refine g_step rfl (s_val (v_move rfl) rfl rfl ?_)
  refine g_step rfl (s_val (v_move rfl) rfl rfl ?_)
  refine g_step rfl (s_val (v_move rfl) rfl rfl ?_)
  refine g_step rfl (s_callp rfl rfl rfl (path_ok2 l a b 1 _ hl hs) ?_)
  rintro _ rfl
  refine g_step rfl (s_val (v_extract rfl rfl) rfl rfl ?_)
  refine g_step rfl (s_val (v_extract rfl rfl) rfl rfl ?_)
  refine g_step rfl (s_val (v_assign rfl) rfl rfl ?_)
  refine g_step rfl (s_val (v_assign rfl) rfl rfl ?_)
  refine g_nil ?_
  refine g_next hK1 ?_
  refine g_ret ?_
  refine g_end2 (.inl rfl) Try.results42 (.tmp rfl) (.tmp rfl) [] (ASub.refl _) (AHeap.sub_refl _) (fun p hp => by cases hp) ⟨rfl, ?_⟩
  rfl

theorem Whole_ok (l : List Rc) (a b : Int) (G : AHeap) (hl : l.length ≤ 1000) (hs : ∀ x ∈ l, Small x.bag) : PCalls Try.prog 43 [encRs l, .int .i64 a, .int .i64 b] G (fun v => v = .tup [.imm ((pathR l a b 2).1.map encH), .bool (pathR l a b 2).2]) := by
  refine LCalls.intro 14 fi43 rfl Try.ntmps43 rfl (fun _ h => h.elim) (fun H hH w0 hw0 => ?_)
  refine g_seq (fun K0 hK0 => ?_)
  refine g_region ?_
  refine g_step rfl (s_val (v_assign rfl) rfl rfl ?_)
  refine g_step rfl (s_val (v_assign rfl) rfl rfl ?_)
  refine g_nil ?_
  refine g_next hK0 ?_
  refine g_seq (fun K1 hK1 => ?_)
  refine g_region ?_
  refine g_step rfl (s_val (v_move rfl) rfl rfl ?_)
  refine g_step rfl (s_val (v_move rfl) rfl rfl ?_)
  refine g_step rfl (s_val (v_move rfl) rfl rfl ?_)
  refine g_step rfl (s_callp rfl rfl rfl (path_ok2 l a b 2 _ hl hs) ?_)
  rintro _ rfl
  refine g_step rfl (s_val (v_extract rfl rfl) rfl rfl ?_)
  refine g_step rfl (s_val (v_extract rfl rfl) rfl rfl ?_)
  refine g_step rfl (s_val (v_assign rfl) rfl rfl ?_)
  refine g_step rfl (s_val (v_assign rfl) rfl rfl ?_)
  refine g_nil ?_
  refine g_next hK1 ?_
  refine g_ret ?_
  refine g_end2 (.inl rfl) Try.results43 (.tmp rfl) (.tmp rfl) [] (ASub.refl _) (AHeap.sub_refl _) (fun p hp => by cases hp) ⟨rfl, ?_⟩
  rfl

theorem far47_ok (l : List Rc) (f : Nat) (least : Int) (G : AHeap) (hl : l.length ≤ 100) (hf : f < l.length) : PCalls Try.prog 80 [encRs l, .int .i64 (f : Int), .int .i64 least] G (fun v => v = .imm ((farL l f least).map (.int .i64))) := by
  refine LCalls.intro 77 fi80 rfl Try.ntmps80 rfl (fun _ h => h.elim) (fun H hH w0 hw0 => ?_)
  refine g_seq (fun K0 hK0 => ?_)
  refine g_region ?_
  refine g_step rfl (s_val (v_assign rfl) rfl rfl ?_)
  refine g_nil ?_
  refine g_next hK0 ?_
  refine g_seq (fun K1 hK1 => ?_)
  refine g_region ?_
  refine g_step rfl (s_val (v_move rfl) rfl rfl ?_)
  refine g_step rfl (s_val (v_len ty22 rfl (by first | rfl | assumption) (by first | exact List.length_map .. | rfl)) rfl rfl ?_)
  refine g_step rfl (s_makeO (n := l.length) (za := (.int .i64 0)) ty27 ty3 rfl rfl rfl rfl rfl rfl (by omega) (by omega) ?_)
  intro r14 hr14 hw14
  refine g_step rfl (s_val (v_assign rfl) rfl rfl ?_)
  refine g_nil ?_
  refine g_next hK1 ?_
  refine g_seq (fun K2 hK2 => ?_)
  refine g_seq (fun K3 hK3 => ?_)
  refine g_region ?_
  refine g_step rfl (s_val (v_assign rfl) rfl rfl ?_)
  refine g_nil ?_
  refine g_next hK3 ?_
  refine g_block ?_
  first | refine g_keep [0, 1, 2, 7, 8] [] [] (keep_cons rfl (keep_cons rfl (keep_cons rfl (keep_cons rfl (keep_cons rfl keep_nil))))) lkeep_nil keep_nil rfl ?_ | refine g_keep [0, 1, 2, 7, 8] [] [] rfl rfl rfl rfl ?_
  refine g_loop (fun n env L B G => ∃ (k : Nat) (R : List Int), k ≤ l.length ∧ n = l.length - k ∧ env = [(0, encRs l), (1, .int .i64 (f : Int)), (2, .int .i64 least), (7, .own r14 1 0 l.length), (8, .int .i64 (k : Int))] ∧ L = [] ∧ B = [] ∧ G = H.set r14 (.row 1 (R.map (.int .i64))) ∧ R = (List.range l.length).map (fun j => if j < k then (1000 : Int) else 0)) (l.length) ⟨0, (List.range l.length).map (fun j => if j < 0 then (1000 : Int) else 0), Nat.zero_le _, rfl, rfl, rfl, rfl, (by rw [show (List.range l.length).map (fun j => if j < 0 then (1000 : Int) else 0) = (List.range l.length).map (fun j => if j < 0 then (-1 : Int) else 0) from range_congr fun j hj => by simp, ← rep_range]), rfl⟩ (fun n env L B G hI => ?_)
  obtain ⟨k, R, hk, rfl, rfl, rfl, rfl, rfl, hR⟩ := hI
  refine g_seq (fun K4 hK4 => ?_)
  refine g_seq (fun K5 hK5 => ?_)
  refine g_region ?_
  refine g_step rfl (s_val (v_move rfl) rfl rfl ?_)
  refine g_step rfl (s_val (v_move rfl) rfl rfl ?_)
  refine g_step rfl (s_val (v_len ty22 rfl (by first | rfl | assumption) (by first | exact List.length_map .. | rfl)) rfl rfl ?_)
  refine g_step rfl (s_val (v_lss rfl rfl) rfl rfl ?_)
  refine g_nil ?_
  refine g_next hK5 ?_
  refine g_cond rfl (fun hc18 => ?_) (fun hc18 => ?_)
  · try simp only [decide_eq_true_eq, decide_eq_false_iff_not, Bool.not_eq_true', Bool.not_eq_false', Bool.not_eq_eq_eq_not, Bool.not_true, Bool.not_false, Bool.and_eq_true, Bool.or_eq_true, Bool.or_eq_false_iff, beq_iff_eq, beq_eq_false_iff_ne, ne_eq, Int.not_lt, Int.not_le, Decidable.not_not] at hc18
    obtain ⟨x, hx⟩ := get_some (l := l) (k := k) (by omega)
    have hfk : R[k]? = some 0 := by rw [hR, range_get _ (by omega)]; simp
    have hRl : R.length = l.length := by rw [hR]; simp
    refine g_skip ?_
    refine g_next hK4 ?_
    refine g_seq (fun K6 hK6 => ?_)
    refine g_block ?_
    refine g_region ?_
    refine g_step rfl (s_val (v_move rfl) rfl rfl ?_)
    refine g_step rfl (s_val (v_move rfl) rfl rfl ?_)
    refine g_step rfl (s_val (v_indexAddr ty27 ty3 rfl rfl (AV.view_own_all (AHeap.get_set _ _ _) (by rw [List.length_map]; omega)) (by first | rfl | exact (rfl : (0 : Int) = ((0 : Nat) : Int)) | exact (Int.toNat_of_nonneg (by omega)).symm) (map_get hfk) rfl) rfl rfl ?_)
    refine g_step rfl (s_store_row (k := k) (off := 0) (old := .int .i64 0) (new := .int .i64 1000) ty3 rfl rfl (AHeap.get_set _ _ _) (by rw [Nat.zero_add]; exact map_get hfk) rfl rfl rfl rfl (.inr hw14) ?_)
    rw [Nat.zero_add k, show (List.map (AV.int .i64) R).set k (.int .i64 1000) = (R.set k 1000).map (.int .i64) from List.map_set.symm, AHeap.set_set]
    refine g_nil ?_
    refine g_block_normal ?_
    refine g_next hK6 ?_
    refine g_region ?_
    refine g_step rfl (s_val (v_move rfl) rfl rfl ?_)
    refine g_step rfl (s_val (v_add rfl rfl (by omega)) rfl rfl ?_)
    refine g_step rfl (s_val (v_assign rfl) rfl rfl ?_)
    refine g_nil ?_
    first | refine g_keep [0, 1, 2, 7, 8] [] [] (keep_cons rfl (keep_cons rfl (keep_cons rfl (keep_cons rfl (keep_cons rfl keep_nil))))) lkeep_nil keep_nil rfl ?_ | refine g_keep [0, 1, 2, 7, 8] [] [] rfl rfl rfl rfl ?_
    exact g_round _ (by omega) ⟨k + 1, R.set k 1000, by omega, rfl, rfl, rfl, rfl, rfl, by rw [hR]; exact fill_set (fun _ => 1000) (fun _ => 0) (by omega)⟩
  · try simp only [decide_eq_true_eq, decide_eq_false_iff_not, Bool.not_eq_true', Bool.not_eq_false', Bool.not_eq_eq_eq_not, Bool.not_true, Bool.not_false, Bool.and_eq_true, Bool.or_eq_true, Bool.or_eq_false_iff, beq_iff_eq, beq_eq_false_iff_ne, ne_eq, Int.not_lt, Int.not_le, Decidable.not_not] at hc18
    obtain rfl : k = l.length := by omega
    have hRf : R[f]? = some 1000 := by rw [hR, range_get _ hf]; simp [hf]
    have hRl : R.length = l.length := by rw [hR]; simp
    refine g_exit ?_
    refine g_then_exit ?_
    refine g_then_exit ?_
    refine g_block_same ?_
    refine g_next hK2 ?_
    refine g_seq (fun K7 hK7 => ?_)
    refine g_region ?_
    refine g_step rfl (s_val (v_move rfl) rfl rfl ?_)
    refine g_step rfl (s_val (v_move rfl) rfl rfl ?_)
    refine g_step rfl (s_val (v_indexAddr ty27 ty3 rfl rfl (AV.view_own_all (AHeap.get_set _ _ _) (by rw [List.length_map]; omega)) (by first | rfl | exact (rfl : (0 : Int) = ((0 : Nat) : Int)) | exact (Int.toNat_of_nonneg (by omega)).symm) (map_get hRf) rfl) rfl rfl ?_)
    refine g_step rfl (s_store_row (k := f) (off := 0) (old := .int .i64 1000) (new := .int .i64 0) ty3 rfl rfl (AHeap.get_set _ _ _) (by rw [Nat.zero_add]; exact map_get hRf) rfl rfl rfl rfl (.inr hw14) ?_)
    rw [Nat.zero_add f, show (List.map (AV.int .i64) R).set f (.int .i64 0) = (R.set f 0).map (.int .i64) from List.map_set.symm, AHeap.set_set]
    have hR0 : R.set f 0 = (List.range l.length).map (fun k => if k = f then (0 : Int) else 1000) := by
        rw [hR, range_set _ _ hf]
        exact range_congr fun j hj => by simp only [hj, ↓reduceIte]
    rw [hR0]
    refine g_nil ?_
    refine g_next hK7 ?_
    refine g_seq (fun K8 hK8 => ?_)
    refine g_seq (fun K9 hK9 => ?_)
    refine g_region ?_
    refine g_step rfl (s_val (v_assign rfl) rfl rfl ?_)
    refine g_nil ?_
    refine g_next hK9 ?_
    refine g_block ?_
    first | refine g_keep [0, 2, 7, 9] [] [] (keep_cons rfl (keep_cons rfl (keep_cons rfl (keep_cons rfl keep_nil)))) lkeep_nil keep_nil rfl ?_ | refine g_keep [0, 2, 7, 9] [] [] rfl rfl rfl rfl ?_
    refine g_loop (fun n env L B G => ∃ (r : Nat) (d : Nat → Int), r ≤ l.length ∧ n = l.length - r ∧ env = [(0, encRs l), (2, .int .i64 least), (7, .own r14 1 0 l.length), (9, .int .i64 (r : Int))] ∧ L = [] ∧ B = [] ∧ G = H.set r14 (.row 1 (((List.range l.length).map d).map (.int .i64))) ∧ Mid (adj l least) l.length f r 0 0 d) (l.length) ⟨0, fun k => if k = f then (0 : Int) else 1000, Nat.zero_le _, rfl, rfl, rfl, rfl, rfl, mid_zero hf⟩ (fun n env L B G hI => ?_)
    obtain ⟨r, d, hr, rfl, rfl, rfl, rfl, rfl, hm⟩ := hI
    refine g_seq (fun K10 hK10 => ?_)
    refine g_seq (fun K11 hK11 => ?_)
    refine g_region ?_
    refine g_step rfl (s_val (v_move rfl) rfl rfl ?_)
    refine g_step rfl (s_val (v_move rfl) rfl rfl ?_)
    refine g_step rfl (s_val (v_len ty22 rfl (by first | rfl | assumption) (by first | exact List.length_map .. | rfl)) rfl rfl ?_)
    refine g_step rfl (s_val (v_lss rfl rfl) rfl rfl ?_)
    refine g_nil ?_
    refine g_next hK11 ?_
    refine g_cond rfl (fun hc30 => ?_) (fun hc30 => ?_)
    · try simp only [decide_eq_true_eq, decide_eq_false_iff_not, Bool.not_eq_true', Bool.not_eq_false', Bool.not_eq_eq_eq_not, Bool.not_true, Bool.not_false, Bool.and_eq_true, Bool.or_eq_true, Bool.or_eq_false_iff, beq_iff_eq, beq_eq_false_iff_ne, ne_eq, Int.not_lt, Int.not_le, Decidable.not_not] at hc30
      obtain ⟨xr, hxr⟩ := get_some (l := l) (k := r) (by omega)
      refine g_skip ?_
      refine g_next hK10 ?_
      refine g_seq (fun K12 hK12 => ?_)
      refine g_block ?_
      refine g_seq (fun K13 hK13 => ?_)
      refine g_region ?_
      refine g_step rfl (s_val (v_assign rfl) rfl rfl ?_)
      refine g_nil ?_
      refine g_next hK13 ?_
      refine g_block ?_
      first | refine g_keep [0, 2, 7, 9, 10] [] [] (keep_cons rfl (keep_cons rfl (keep_cons rfl (keep_cons rfl (keep_cons rfl keep_nil))))) lkeep_nil keep_nil rfl ?_ | refine g_keep [0, 2, 7, 9, 10] [] [] rfl rfl rfl rfl ?_
      refine g_loop (fun n env L B G => ∃ (i : Nat) (d : Nat → Int), i ≤ l.length ∧ n = l.length - i ∧ env = [(0, encRs l), (2, .int .i64 least), (7, .own r14 1 0 l.length), (9, .int .i64 (r : Int)), (10, .int .i64 (i : Int))] ∧ L = [] ∧ B = [] ∧ G = H.set r14 (.row 1 (((List.range l.length).map d).map (.int .i64))) ∧ Mid (adj l least) l.length f r i 0 d) (l.length) ⟨0, d, Nat.zero_le _, rfl, rfl, rfl, rfl, rfl, hm⟩ (fun n env L B G hI => ?_)
      obtain ⟨i, d, hi, rfl, rfl, rfl, rfl, rfl, hm⟩ := hI
      refine g_seq (fun K14 hK14 => ?_)
      refine g_seq (fun K15 hK15 => ?_)
      refine g_region ?_
      refine g_step rfl (s_val (v_move rfl) rfl rfl ?_)
      refine g_step rfl (s_val (v_move rfl) rfl rfl ?_)
      refine g_step rfl (s_val (v_len ty22 rfl (by first | rfl | assumption) (by first | exact List.length_map .. | rfl)) rfl rfl ?_)
      refine g_step rfl (s_val (v_lss rfl rfl) rfl rfl ?_)
      refine g_nil ?_
      refine g_next hK15 ?_
      refine g_cond rfl (fun hc36 => ?_) (fun hc36 => ?_)
      · try simp only [decide_eq_true_eq, decide_eq_false_iff_not, Bool.not_eq_true', Bool.not_eq_false', Bool.not_eq_eq_eq_not, Bool.not_true, Bool.not_false, Bool.and_eq_true, Bool.or_eq_true, Bool.or_eq_false_iff, beq_iff_eq, beq_eq_false_iff_ne, ne_eq, Int.not_lt, Int.not_le, Decidable.not_not] at hc36
        obtain ⟨xi, hxi⟩ := get_some (l := l) (k := i) (by omega)
        refine g_skip ?_
        refine g_next hK14 ?_
        refine g_seq (fun K16 hK16 => ?_)
        refine g_block ?_
        refine g_seq (fun K17 hK17 => ?_)
        refine g_region ?_
        refine g_step rfl (s_val (v_assign rfl) rfl rfl ?_)
        refine g_nil ?_
        refine g_next hK17 ?_
        refine g_block ?_
        first | refine g_keep [0, 2, 7, 9, 10, 11] [] [] (keep_cons rfl (keep_cons rfl (keep_cons rfl (keep_cons rfl (keep_cons rfl (keep_cons rfl keep_nil)))))) lkeep_nil keep_nil rfl ?_ | refine g_keep [0, 2, 7, 9, 10, 11] [] [] rfl rfl rfl rfl ?_
        refine g_loop (fun n env L B G => ∃ (k : Nat) (d : Nat → Int), k ≤ l.length ∧ n = l.length - k ∧ env = [(0, encRs l), (2, .int .i64 least), (7, .own r14 1 0 l.length), (9, .int .i64 (r : Int)), (10, .int .i64 (i : Int)), (11, .int .i64 (k : Int))] ∧ L = [] ∧ B = [] ∧ G = H.set r14 (.row 1 (((List.range l.length).map d).map (.int .i64))) ∧ Mid (adj l least) l.length f r i k d) (l.length) ⟨0, d, Nat.zero_le _, rfl, rfl, rfl, rfl, rfl, hm⟩ (fun n env L B G hI => ?_)
        obtain ⟨k, d, hk, rfl, rfl, rfl, rfl, rfl, hm⟩ := hI
        refine g_seq (fun K18 hK18 => ?_)
        refine g_seq (fun K19 hK19 => ?_)
        refine g_region ?_
        refine g_step rfl (s_val (v_move rfl) rfl rfl ?_)
        refine g_step rfl (s_val (v_move rfl) rfl rfl ?_)
        refine g_step rfl (s_val (v_len ty22 rfl (by first | rfl | assumption) (by first | exact List.length_map .. | rfl)) rfl rfl ?_)
        refine g_step rfl (s_val (v_lss rfl rfl) rfl rfl ?_)
        refine g_nil ?_
        refine g_next hK19 ?_
        refine g_cond rfl (fun hc42 => ?_) (fun hc42 => ?_)
        · try simp only [decide_eq_true_eq, decide_eq_false_iff_not, Bool.not_eq_true', Bool.not_eq_false', Bool.not_eq_eq_eq_not, Bool.not_true, Bool.not_false, Bool.and_eq_true, Bool.or_eq_true, Bool.or_eq_false_iff, beq_iff_eq, beq_eq_false_iff_ne, ne_eq, Int.not_lt, Int.not_le, Decidable.not_not] at hc42
          obtain ⟨x, hx⟩ := get_some (l := l) (k := k) (by omega)
          have hdk := range_get d (show k < l.length by omega)
          have hdi := range_get d (show i < l.length by omega)
          have hai := hm.a i (by omega)
          have hia := dist_lt (adj l least) l.length f (k := i) hf (by omega)
          refine g_skip ?_
          refine g_next hK18 ?_
          refine g_seq (fun K20 hK20 => ?_)
          refine g_block ?_
          refine g_seq (fun K21 hK21 => ?_)
          refine g_draw (n := 23) (fun j => !([] : List Nat).contains j) rfl rfl ?_
          refine m_take 0 false rfl rfl (by kernel_rfl) (by kernel_rfl) (by kernel_rfl) (fun _ _ _ _ h => h) (v_move rfl) rfl rfl ?_
          refine m_take 1 false rfl rfl (by kernel_rfl) (by kernel_rfl) (by kernel_rfl) (fun _ _ _ _ h => h) (v_move rfl) rfl rfl ?_
          refine m_take 2 false rfl rfl (by kernel_rfl) (by kernel_rfl) (by kernel_rfl) (fun _ _ _ _ h => h) (v_indexAddr ty27 ty3 rfl rfl (AV.view_own_all (AHeap.get_set _ _ _) (by simp)) (by first | rfl | exact (rfl : (0 : Int) = ((0 : Nat) : Int)) | exact (Int.toNat_of_nonneg (by omega)).symm) (map_get hdk) rfl) rfl rfl ?_
          refine m_take 3 true rfl rfl (by kernel_rfl) (by kernel_rfl) (by kernel_rfl) (fun _ _ _ _ h => h) (by first | exact v_load ty3 rfl rfl (AV.view_own_all (AHeap.get_set _ _ _) (by simp)) (map_get hdk) rfl | exact v_load_box ty3 rfl rfl (by assumption) rfl) rfl rfl ?_
          refine m_take 4 false rfl rfl (by kernel_rfl) (by kernel_rfl) (by kernel_rfl) (fun _ _ _ _ h => h) (v_move rfl) rfl rfl ?_
          refine m_take 5 false rfl rfl (by kernel_rfl) (by kernel_rfl) (by kernel_rfl) (fun _ _ _ _ h => h) (v_move rfl) rfl rfl ?_
          refine m_take 6 false rfl rfl (by kernel_rfl) (by kernel_rfl) (by kernel_rfl) (fun _ _ _ _ h => h) (v_indexAddr ty27 ty3 rfl rfl (AV.view_own_all (AHeap.get_set _ _ _) (by simp)) (by first | rfl | exact (rfl : (0 : Int) = ((0 : Nat) : Int)) | exact (Int.toNat_of_nonneg (by omega)).symm) (map_get hdi) rfl) rfl rfl ?_
          refine m_take 7 true rfl rfl (by kernel_rfl) (by kernel_rfl) (by kernel_rfl) (fun _ _ _ _ h => h) (by first | exact v_load ty3 rfl rfl (AV.view_own_all (AHeap.get_set _ _ _) (by simp)) (map_get hdi) rfl | exact v_load_box ty3 rfl rfl (by assumption) rfl) rfl rfl ?_
          refine m_take 8 false rfl rfl (by kernel_rfl) (by kernel_rfl) (by kernel_rfl) (fun _ _ _ _ h => h) (v_add rfl rfl (by omega)) rfl rfl ?_
          refine m_take 9 false rfl rfl (by kernel_rfl) (by kernel_rfl) (by kernel_rfl) (fun _ _ _ _ h => h) (v_gtr rfl rfl) rfl rfl ?_
          refine m_take 10 false rfl rfl (by kernel_rfl) (by kernel_rfl) (by kernel_rfl) (fun _ _ _ _ h => h) (v_move rfl) rfl rfl ?_
          refine m_split 55 rfl (fun hg55 => ?_) (fun hg55 => ?_)
          · try simp only [decide_eq_true_eq, decide_eq_false_iff_not, Bool.not_eq_true', Bool.not_eq_false', Bool.not_eq_eq_eq_not, Bool.not_true, Bool.not_false, Bool.and_eq_true, Bool.or_eq_true, Bool.or_eq_false_iff, beq_iff_eq, beq_eq_false_iff_ne, ne_eq, Int.not_lt, Int.not_le, Decidable.not_not] at hg55
            refine m_take_yes (j := 10) (t := 55) 11 false rfl rfl rfl rfl rfl (by kernel_rfl) (by kernel_rfl) (by kernel_rfl) (fun _ _ _ _ h => h) (v_move rfl) rfl rfl ?_
            refine m_take_yes (j := 10) (t := 55) 12 false rfl rfl rfl rfl rfl (by kernel_rfl) (by kernel_rfl) (by kernel_rfl) (fun _ _ _ _ h => h) (v_move rfl) rfl rfl ?_
            refine m_take_yes (j := 10) (t := 55) 13 false rfl rfl rfl rfl rfl (by kernel_rfl) (by kernel_rfl) (by kernel_rfl) (fun _ _ _ _ h => h) (v_indexAddr ty22 ty32 rfl rfl (by first | rfl | assumption) (by first | rfl | exact (rfl : (0 : Int) = ((0 : Nat) : Int)) | exact (Int.toNat_of_nonneg (by omega)).symm) (map_get hxi) rfl) rfl rfl ?_
            refine m_take_yes (j := 10) (t := 55) 14 true rfl rfl rfl rfl rfl (by kernel_rfl) (by kernel_rfl) (by kernel_rfl) (fun _ _ _ _ h => h) (by first | exact v_load_elt ty32 rfl rfl (by first | rfl | assumption) (map_get hxi) rfl rfl | exact v_load_box_all ty32 rfl rfl (by assumption) rfl rfl | exact v_load_part (cs := [_, _, _, _, _, _, _]) ty32 rfl rfl (by first | rfl | assumption) (map_get hxi) rfl rfl rfl | exact v_load_box_part (cs := [_, _, _, _, _, _, _]) ty32 rfl rfl (by assumption) rfl rfl rfl) rfl rfl ?_
            refine m_take_yes (j := 10) (t := 55) 15 false rfl rfl rfl rfl rfl (by kernel_rfl) (by kernel_rfl) (by kernel_rfl) (fun _ _ _ _ h => h) (v_move rfl) rfl rfl ?_
            refine m_take_yes (j := 10) (t := 55) 16 false rfl rfl rfl rfl rfl (by kernel_rfl) (by kernel_rfl) (by kernel_rfl) (fun _ _ _ _ h => h) (v_move rfl) rfl rfl ?_
            refine m_take_yes (j := 10) (t := 55) 17 false rfl rfl rfl rfl rfl (by kernel_rfl) (by kernel_rfl) (by kernel_rfl) (fun _ _ _ _ h => h) (v_indexAddr ty22 ty32 rfl rfl (by first | rfl | assumption) (by first | rfl | exact (rfl : (0 : Int) = ((0 : Nat) : Int)) | exact (Int.toNat_of_nonneg (by omega)).symm) (map_get hx) rfl) rfl rfl ?_
            refine m_take_yes (j := 10) (t := 55) 18 true rfl rfl rfl rfl rfl (by kernel_rfl) (by kernel_rfl) (by kernel_rfl) (fun _ _ _ _ h => h) (by first | exact v_load_elt ty32 rfl rfl (by first | rfl | assumption) (map_get hx) rfl rfl | exact v_load_box_all ty32 rfl rfl (by assumption) rfl rfl | exact v_load_part (cs := [_, _, _, _, _, _, _]) ty32 rfl rfl (by first | rfl | assumption) (map_get hx) rfl rfl rfl | exact v_load_box_part (cs := [_, _, _, _, _, _, _]) ty32 rfl rfl (by assumption) rfl rfl rfl) rfl rfl ?_
            refine m_take_yes (j := 10) (t := 55) 20 false rfl rfl rfl rfl rfl (by kernel_rfl) (by kernel_rfl) (by kernel_rfl) (fun _ _ _ _ h => h) (v_move rfl) rfl rfl ?_
            refine m_one_yes (j := 10) (t := 55) 19 (by kernel_rfl) rfl rfl rfl rfl rfl ?_
            refine sm_callp rfl rfl rfl (link47_ok xi x _) ?_
            rintro _ rfl
            refine m_take_yes (j := 10) (t := 55) 21 false rfl rfl rfl rfl rfl (by kernel_rfl) (by kernel_rfl) (by kernel_rfl) (fun _ _ _ _ h => h) (v_geq rfl rfl) rfl rfl ?_
            refine m_take 22 false rfl rfl (by kernel_rfl) (by kernel_rfl) (by kernel_rfl) (fun _ _ _ _ h => h) (v_pick_t rfl rfl) rfl rfl ?_
            refine m_done (by kernel_rfl) ?_
            refine g_next hK21 ?_
            first | refine g_keep [0, 2, 7, 9, 10, 11, 67] [] [] (keep_cons rfl (keep_cons rfl (keep_cons rfl (keep_cons rfl (keep_cons rfl (keep_cons rfl (keep_cons rfl keep_nil))))))) lkeep_nil keep_nil rfl ?_ | refine g_keep [0, 2, 7, 9, 10, 11, 67] [] [] rfl rfl rfl rfl ?_
            refine g_cond rfl (fun hc67 => ?_) (fun hc67 => ?_)
            · try simp only [decide_eq_true_eq, decide_eq_false_iff_not, Bool.not_eq_true', Bool.not_eq_false', Bool.not_eq_eq_eq_not, Bool.not_true, Bool.not_false, Bool.and_eq_true, Bool.or_eq_true, Bool.or_eq_false_iff, beq_iff_eq, beq_eq_false_iff_ne, ne_eq, Int.not_lt, Int.not_le, Decidable.not_not] at hc67
              refine g_region ?_
              refine g_step rfl (s_val (v_move rfl) rfl rfl ?_)
              refine g_step rfl (s_val (v_move rfl) rfl rfl ?_)
              refine g_step rfl (s_val (v_move rfl) rfl rfl ?_)
              refine g_step rfl (s_val (v_move rfl) rfl rfl ?_)
              refine g_step rfl (s_val (v_indexAddr ty27 ty3 rfl rfl (AV.view_own_all (AHeap.get_set _ _ _) (by simp)) (by first | rfl | exact (rfl : (0 : Int) = ((0 : Nat) : Int)) | exact (Int.toNat_of_nonneg (by omega)).symm) (map_get hdi) rfl) rfl rfl ?_)
              refine g_step rfl (s_val (by first | exact v_load ty3 rfl rfl (AV.view_own_all (AHeap.get_set _ _ _) (by simp)) (map_get hdi) rfl | exact v_load_box ty3 rfl rfl (by assumption) rfl) rfl rfl ?_)
              refine g_step rfl (s_val (v_add rfl rfl (by omega)) rfl rfl ?_)
              refine g_step rfl (s_val (v_indexAddr ty27 ty3 rfl rfl (AV.view_own_all (AHeap.get_set _ _ _) (by simp)) (by first | rfl | exact (rfl : (0 : Int) = ((0 : Nat) : Int)) | exact (Int.toNat_of_nonneg (by omega)).symm) (map_get hdk) rfl) rfl rfl ?_)
              refine g_step rfl (s_store_row (k := k) (off := 0) (old := .int .i64 (d k)) (new := .int .i64 (d i + 1)) ty3 rfl rfl (AHeap.get_set _ _ _) (by rw [Nat.zero_add]; exact map_get hdk) rfl rfl rfl rfl (.inr hw14) ?_)
              rw [Nat.zero_add k, show (List.map (AV.int .i64) ((List.range l.length).map d)).set k (.int .i64 (d i + 1)) = (((List.range l.length).map d).set k (d i + 1)).map (.int .i64) from List.map_set.symm, AHeap.set_set]
              refine g_nil ?_
              refine g_block_normal ?_
              refine g_next hK20 ?_
              refine g_region ?_
              refine g_step rfl (s_val (v_move rfl) rfl rfl ?_)
              refine g_step rfl (s_val (v_add rfl rfl (by omega)) rfl rfl ?_)
              refine g_step rfl (s_val (v_assign rfl) rfl rfl ?_)
              refine g_nil ?_
              first | refine g_keep [0, 2, 7, 9, 10, 11] [] [] (keep_cons rfl (keep_cons rfl (keep_cons rfl (keep_cons rfl (keep_cons rfl (keep_cons rfl keep_nil)))))) lkeep_nil keep_nil rfl ?_ | refine g_keep [0, 2, 7, 9, 10, 11] [] [] rfl rfl rfl rfl ?_
              first | exact g_round _ (by omega) ⟨k + 1, fun j => if j = k then d i + 1 else d j, by omega, rfl, rfl, rfl, rfl, (by first | rfl | rw [range_set d _ (by omega)]), mid_hit hm hf (by omega) (by omega) (by omega) (by rw [adj_eq hxi hx]; simpa using hc67)⟩ | exact g_round _ (by omega) ⟨k + 1, d, by omega, rfl, rfl, rfl, rfl, (by first | rfl | rw [range_set d _ (by omega)]), mid_miss hm (by omega) (by omega) hl (by rintro ⟨h1, h2⟩; rw [adj_eq hxi hx, decide_eq_true_eq] at h2; omega)⟩
            · try simp only [decide_eq_true_eq, decide_eq_false_iff_not, Bool.not_eq_true', Bool.not_eq_false', Bool.not_eq_eq_eq_not, Bool.not_true, Bool.not_false, Bool.and_eq_true, Bool.or_eq_true, Bool.or_eq_false_iff, beq_iff_eq, beq_eq_false_iff_ne, ne_eq, Int.not_lt, Int.not_le, Decidable.not_not] at hc67
              refine g_skip ?_
              refine g_block_normal ?_
              refine g_next hK20 ?_
              refine g_region ?_
              refine g_step rfl (s_val (v_move rfl) rfl rfl ?_)
              refine g_step rfl (s_val (v_add rfl rfl (by omega)) rfl rfl ?_)
              refine g_step rfl (s_val (v_assign rfl) rfl rfl ?_)
              refine g_nil ?_
              first | refine g_keep [0, 2, 7, 9, 10, 11] [] [] (keep_cons rfl (keep_cons rfl (keep_cons rfl (keep_cons rfl (keep_cons rfl (keep_cons rfl keep_nil)))))) lkeep_nil keep_nil rfl ?_ | refine g_keep [0, 2, 7, 9, 10, 11] [] [] rfl rfl rfl rfl ?_
              first | exact g_round _ (by omega) ⟨k + 1, fun j => if j = k then d i + 1 else d j, by omega, rfl, rfl, rfl, rfl, (by first | rfl | rw [range_set d _ (by omega)]), mid_hit hm hf (by omega) (by omega) (by omega) (by rw [adj_eq hxi hx]; simpa using hc67)⟩ | exact g_round _ (by omega) ⟨k + 1, d, by omega, rfl, rfl, rfl, rfl, (by first | rfl | rw [range_set d _ (by omega)]), mid_miss hm (by omega) (by omega) hl (by rintro ⟨h1, h2⟩; rw [adj_eq hxi hx, decide_eq_true_eq] at h2; omega)⟩
          · try simp only [decide_eq_true_eq, decide_eq_false_iff_not, Bool.not_eq_true', Bool.not_eq_false', Bool.not_eq_eq_eq_not, Bool.not_true, Bool.not_false, Bool.and_eq_true, Bool.or_eq_true, Bool.or_eq_false_iff, beq_iff_eq, beq_eq_false_iff_ne, ne_eq, Int.not_lt, Int.not_le, Decidable.not_not] at hg55
            refine m_take_no (j := 10) (t := 55) 11 rfl rfl rfl rfl rfl rfl (by kernel_rfl) (by kernel_rfl) (by kernel_rfl) (fun _ _ _ _ h => h) rfl rfl ?_
            refine m_take_no (j := 10) (t := 55) 12 rfl rfl rfl rfl rfl rfl (by kernel_rfl) (by kernel_rfl) (by kernel_rfl) (fun _ _ _ _ h => h) rfl rfl ?_
            refine m_take_no (j := 10) (t := 55) 13 rfl rfl rfl rfl rfl rfl (by kernel_rfl) (by kernel_rfl) (by kernel_rfl) (fun _ _ _ _ h => h) rfl rfl ?_
            refine m_take_no (j := 10) (t := 55) 14 rfl rfl rfl rfl rfl rfl (by kernel_rfl) (by kernel_rfl) (by kernel_rfl) (fun _ _ _ _ h => h) rfl rfl ?_
            refine m_take_no (j := 10) (t := 55) 15 rfl rfl rfl rfl rfl rfl (by kernel_rfl) (by kernel_rfl) (by kernel_rfl) (fun _ _ _ _ h => h) rfl rfl ?_
            refine m_take_no (j := 10) (t := 55) 16 rfl rfl rfl rfl rfl rfl (by kernel_rfl) (by kernel_rfl) (by kernel_rfl) (fun _ _ _ _ h => h) rfl rfl ?_
            refine m_take_no (j := 10) (t := 55) 17 rfl rfl rfl rfl rfl rfl (by kernel_rfl) (by kernel_rfl) (by kernel_rfl) (fun _ _ _ _ h => h) rfl rfl ?_
            refine m_take_no (j := 10) (t := 55) 18 rfl rfl rfl rfl rfl rfl (by kernel_rfl) (by kernel_rfl) (by kernel_rfl) (fun _ _ _ _ h => h) rfl rfl ?_
            refine m_take_no (j := 10) (t := 55) 19 rfl rfl rfl rfl rfl rfl (by kernel_rfl) (by kernel_rfl) (by kernel_rfl) (fun _ _ _ _ h => h) rfl rfl ?_
            refine m_take_no (j := 10) (t := 55) 20 rfl rfl rfl rfl rfl rfl (by kernel_rfl) (by kernel_rfl) (by kernel_rfl) (fun _ _ _ _ h => h) rfl rfl ?_
            refine m_take_no (j := 10) (t := 55) 21 rfl rfl rfl rfl rfl rfl (by kernel_rfl) (by kernel_rfl) (by kernel_rfl) (fun _ _ _ _ h => h) rfl rfl ?_
            refine m_take 22 false rfl rfl (by kernel_rfl) (by kernel_rfl) (by kernel_rfl) (fun _ _ _ _ h => h) (v_pick_f rfl rfl) rfl rfl ?_
            refine m_done (by kernel_rfl) ?_
            refine g_next hK21 ?_
            first | refine g_keep [0, 2, 7, 9, 10, 11, 67] [] [] (keep_cons rfl (keep_cons rfl (keep_cons rfl (keep_cons rfl (keep_cons rfl (keep_cons rfl (keep_cons rfl keep_nil))))))) lkeep_nil keep_nil rfl ?_ | refine g_keep [0, 2, 7, 9, 10, 11, 67] [] [] rfl rfl rfl rfl ?_
            refine g_cond rfl (fun h => by cases h) (fun _ => ?_)
            refine g_skip ?_
            refine g_block_normal ?_
            refine g_next hK20 ?_
            refine g_region ?_
            refine g_step rfl (s_val (v_move rfl) rfl rfl ?_)
            refine g_step rfl (s_val (v_add rfl rfl (by omega)) rfl rfl ?_)
            refine g_step rfl (s_val (v_assign rfl) rfl rfl ?_)
            refine g_nil ?_
            first | refine g_keep [0, 2, 7, 9, 10, 11] [] [] (keep_cons rfl (keep_cons rfl (keep_cons rfl (keep_cons rfl (keep_cons rfl (keep_cons rfl keep_nil)))))) lkeep_nil keep_nil rfl ?_ | refine g_keep [0, 2, 7, 9, 10, 11] [] [] rfl rfl rfl rfl ?_
            first | exact g_round _ (by omega) ⟨k + 1, fun j => if j = k then d i + 1 else d j, by omega, rfl, rfl, rfl, rfl, (by first | rfl | rw [range_set d _ (by omega)]), mid_hit hm hf (by omega) (by omega) (by omega) (by rw [adj_eq hxi hx]; simpa using hc67)⟩ | exact g_round _ (by omega) ⟨k + 1, d, by omega, rfl, rfl, rfl, rfl, (by first | rfl | rw [range_set d _ (by omega)]), mid_miss hm (by omega) (by omega) hl (by rintro ⟨h1, h2⟩; rw [adj_eq hxi hx, decide_eq_true_eq] at h2; omega)⟩
        · try simp only [decide_eq_true_eq, decide_eq_false_iff_not, Bool.not_eq_true', Bool.not_eq_false', Bool.not_eq_eq_eq_not, Bool.not_true, Bool.not_false, Bool.and_eq_true, Bool.or_eq_true, Bool.or_eq_false_iff, beq_iff_eq, beq_eq_false_iff_ne, ne_eq, Int.not_lt, Int.not_le, Decidable.not_not] at hc42
          obtain rfl : k = l.length := by omega
          refine g_exit ?_
          refine g_then_exit ?_
          refine g_then_exit ?_
          refine g_block_same ?_
          refine g_block_normal ?_
          refine g_next hK16 ?_
          refine g_region ?_
          refine g_step rfl (s_val (v_move rfl) rfl rfl ?_)
          refine g_step rfl (s_val (v_add rfl rfl (by omega)) rfl rfl ?_)
          refine g_step rfl (s_val (v_assign rfl) rfl rfl ?_)
          refine g_nil ?_
          first | refine g_keep [0, 2, 7, 9, 10] [] [] (keep_cons rfl (keep_cons rfl (keep_cons rfl (keep_cons rfl (keep_cons rfl keep_nil))))) lkeep_nil keep_nil rfl ?_ | refine g_keep [0, 2, 7, 9, 10] [] [] rfl rfl rfl rfl ?_
          exact g_round _ (by omega) ⟨i + 1, d, by omega, rfl, rfl, rfl, rfl, rfl, mid_next hm⟩
      · try simp only [decide_eq_true_eq, decide_eq_false_iff_not, Bool.not_eq_true', Bool.not_eq_false', Bool.not_eq_eq_eq_not, Bool.not_true, Bool.not_false, Bool.and_eq_true, Bool.or_eq_true, Bool.or_eq_false_iff, beq_iff_eq, beq_eq_false_iff_ne, ne_eq, Int.not_lt, Int.not_le, Decidable.not_not] at hc36
        obtain rfl : i = l.length := by omega
        refine g_exit ?_
        refine g_then_exit ?_
        refine g_then_exit ?_
        refine g_block_same ?_
        refine g_block_normal ?_
        refine g_next hK12 ?_
        refine g_region ?_
        refine g_step rfl (s_val (v_move rfl) rfl rfl ?_)
        refine g_step rfl (s_val (v_add rfl rfl (by omega)) rfl rfl ?_)
        refine g_step rfl (s_val (v_assign rfl) rfl rfl ?_)
        refine g_nil ?_
        first | refine g_keep [0, 2, 7, 9] [] [] (keep_cons rfl (keep_cons rfl (keep_cons rfl (keep_cons rfl keep_nil)))) lkeep_nil keep_nil rfl ?_ | refine g_keep [0, 2, 7, 9] [] [] rfl rfl rfl rfl ?_
        exact g_round _ (by omega) ⟨r + 1, d, by omega, rfl, rfl, rfl, rfl, rfl, mid_round hm⟩
    · try simp only [decide_eq_true_eq, decide_eq_false_iff_not, Bool.not_eq_true', Bool.not_eq_false', Bool.not_eq_eq_eq_not, Bool.not_true, Bool.not_false, Bool.and_eq_true, Bool.or_eq_true, Bool.or_eq_false_iff, beq_iff_eq, beq_eq_false_iff_ne, ne_eq, Int.not_lt, Int.not_le, Decidable.not_not] at hc30
      obtain rfl : r = l.length := by omega
      refine g_exit ?_
      refine g_then_exit ?_
      refine g_then_exit ?_
      refine g_block_same ?_
      refine g_next hK8 ?_
      refine g_seq (fun K22 hK22 => ?_)
      refine g_region ?_
      have hend : ((List.range l.length).map d) = farL l f least := range_congr fun k hk => mid_end hl hm k hk
      rw [hend]
      refine g_step rfl (s_val (v_move rfl) rfl rfl ?_)
      refine g_step rfl (s_val (v_assign rfl) rfl rfl ?_)
      refine g_nil ?_
      refine g_freezeV (sz := 1) (l := (farL l f least).map (.int .i64)) 6 rfl (.inr ⟨r14, by rw [List.length_map, farL_length], AHeap.get_set _ _ _⟩) (AHeap.sub_set (AHeap.sub_refl _) hr14) (fun r k e => by cases e; exact hr14) ?_
      refine g_next hK22 ?_
      refine g_ret ?_
      refine g_end1 (.inl rfl) Try.results80 (.tmp rfl) [] (ASub.refl _) (AHeap.sub_refl _) (fun p hp => by cases hp) ⟨rfl, ?_⟩
      rfl

end Go.Proofs.Ytgedefcjngofkaa

import Derived.Test.YtnkcofpkmnohkaaMsg
set_option maxHeartbeats 8000000
set_option linter.unusedSimpArgs false
set_option linter.unusedVariables false
set_option maxRecDepth 100000
namespace Go.Proofs.Ytnkcofpkmnohkaa
open Go Go.Proofs.Ytnkcofpkmnohkaa.AM
theorem mkind_ok (s : ByteArray) (G : AHeap) : PCalls Try.prog 19 [.str s] G (fun v => v = .tup [.int .i64 (kOf s), .bool (decide (0 < kOf s))]) := by
  refine LCalls.intro 21 fi19 rfl Try.ntmps19 rfl (fun _ h => h.elim) (fun H hH w0 hw0 => ?_)
  refine g_seq (fun K0 hK0 => ?_)
  refine g_region ?_
  refine g_step rfl (s_val (v_assign rfl) rfl rfl ?_)
  refine g_step rfl (s_val (v_assign rfl) rfl rfl ?_)
  refine g_nil ?_
  refine g_next hK0 ?_
  refine g_seq (fun K1 hK1 => ?_)
  refine g_seq (fun K2 hK2 => ?_)
  refine g_region ?_
  refine g_step rfl (s_callp rfl rfl rfl (table_ok _) ?_)
  rintro _ rfl
  refine g_step rfl (s_val (v_move rfl) rfl rfl ?_)
  refine g_nil ?_
  refine g_next hK2 ?_
  refine g_block ?_
  first | refine g_keep [0, 6, 7] [] [] (keep_cons rfl (keep_cons rfl (keep_cons rfl keep_nil))) lkeep_nil keep_nil rfl ?_ | refine g_keep [0, 6, 7] [] [] rfl rfl rfl rfl ?_
  refine g_loop (fun n env L B G => ∃ (k : Nat) , k ≤ 10 ∧ n = 10 - k ∧ env = [(0, .str s), (6, .agg kTable), (7, .int .i64 (k : Int))] ∧ L = [] ∧ B = [] ∧ H = G ∧ kIdx (kNames.drop k) s (k : Int) = kOf s) (10) ⟨0, Nat.zero_le _, rfl, rfl, rfl, rfl, rfl, rfl⟩ (fun n env L B G hI => ?_)
  obtain ⟨k, hk, rfl, rfl, rfl, rfl, rfl, hc⟩ := hI
  refine g_seq (fun K3 hK3 => ?_)
  refine g_region ?_
  refine g_step rfl (s_val (v_lss rfl rfl) rfl rfl ?_)
  refine g_nil ?_
  refine g_next hK3 ?_
  refine g_seq (fun K4 hK4 => ?_)
  refine g_cond rfl (fun hc8 => ?_) (fun hc8 => ?_)
  · try simp only [decide_eq_true_eq, decide_eq_false_iff_not, Bool.not_eq_true', Bool.not_eq_false', Bool.not_eq_eq_eq_not, Bool.not_true, Bool.not_false, Bool.and_eq_true, Bool.or_eq_true, Bool.or_eq_false_iff, beq_iff_eq, beq_eq_false_iff_ne, ne_eq, Int.not_lt, Int.not_le, Decidable.not_not] at hc8
    obtain ⟨x, hx⟩ := get_some (l := kNames) (k := k) (by show k < 10; omega)
    obtain ⟨q, hq⟩ := kTable_nth hx
    refine g_skip ?_
    refine g_next hK4 ?_
    refine g_seq (fun K5 hK5 => ?_)
    refine g_block ?_
    refine g_seq (fun K6 hK6 => ?_)
    refine g_region ?_
    refine g_step rfl (s_val (v_move rfl) rfl rfl ?_)
    refine g_step rfl (s_val (v_index_arr_agg (i := k) (cs := [.str x, .int .u8 q]) ty73 ty69 rfl rfl rfl (by first | rfl | exact (rfl : (0 : Int) = ((0 : Nat) : Int)) | exact (Int.toNat_of_nonneg (by omega)).symm) (by omega) hq) rfl rfl ?_)
    refine g_step rfl (s_alloc (av := (.agg [(.str ⟨#[]⟩), (.int .u8 0)])) ty69 rfl rfl rfl rfl ?_)
    refine g_step rfl (s_val (v_assign rfl) rfl rfl ?_)
    refine g_step rfl (s_store_all ty69 rfl rfl rfl rfl rfl rfl ?_)
    refine g_nil ?_
    refine g_next hK6 ?_
    refine g_seq (fun K7 hK7 => ?_)
    refine g_region ?_
    refine g_step rfl (s_val (v_move rfl) rfl rfl ?_)
    refine g_step rfl (s_val (v_gtr rfl rfl) rfl rfl ?_)
    refine g_step rfl (s_val (v_move rfl) rfl rfl ?_)
    refine g_split 13 rfl (fun hg13 => ?_) (fun hg13 => ?_)
    · try simp only [decide_eq_true_eq, decide_eq_false_iff_not, Bool.not_eq_true', Bool.not_eq_false', Bool.not_eq_eq_eq_not, Bool.not_true, Bool.not_false, Bool.and_eq_true, Bool.or_eq_true, Bool.or_eq_false_iff, beq_iff_eq, beq_eq_false_iff_ne, ne_eq, Int.not_lt, Int.not_le, Decidable.not_not] at hg13
      refine g_step_yes (j := 2) (t := 13) rfl rfl rfl rfl (s_fieldAddr ty69 fo69_0 ty9 rfl rfl ?_)
      refine g_step_yes (j := 2) (t := 13) rfl rfl rfl rfl (s_val (v_loadl ty9 rfl rfl rfl rfl) rfl rfl ?_)
      refine g_step_yes (j := 2) (t := 13) rfl rfl rfl rfl (s_val (v_move rfl) rfl rfl ?_)
      refine g_step_yes (j := 2) (t := 13) rfl rfl rfl rfl (s_val (v_seq rfl rfl) rfl rfl ?_)
      refine g_step rfl (s_val (v_pick_t rfl rfl) rfl rfl ?_)
      refine g_nil ?_
      refine g_next hK7 ?_
      refine g_cond rfl (fun hc18 => ?_) (fun hc18 => ?_)
      · try simp only [decide_eq_true_eq, decide_eq_false_iff_not, Bool.not_eq_true', Bool.not_eq_false', Bool.not_eq_eq_eq_not, Bool.not_true, Bool.not_false, Bool.and_eq_true, Bool.or_eq_true, Bool.or_eq_false_iff, beq_iff_eq, beq_eq_false_iff_ne, ne_eq, Int.not_lt, Int.not_le, Decidable.not_not] at hc18
        refine g_seq (fun K8 hK8 => ?_)
        refine g_region ?_
        refine g_step rfl (s_val (v_move rfl) rfl rfl ?_)
        refine g_step rfl (s_val (v_assign rfl) rfl rfl ?_)
        refine g_step rfl (s_val (v_assign rfl) rfl rfl ?_)
        refine g_nil ?_
        refine g_next hK8 ?_
        refine g_ret ?_
        refine g_block_ret ?_
        refine g_then_ret ?_
        refine g_then_ret ?_
        refine g_block_ret ?_
        refine g_then_ret ?_
        refine g_end2 (.inl rfl) Try.results19 (.tmp rfl) (.tmp rfl) [] (ASub.refl _) (AHeap.sub_refl _) (fun p hp => by cases hp) ⟨rfl, ?_⟩
        first | (rw [drop_cons hx, kIdx, if_pos ⟨by omega, by assumption⟩] at hc; rw [← hc]; simp; omega; done) | (rw [drop_cons hx, kIdx, if_pos ⟨by omega, by assumption⟩] at hc; rw [← hc]; simp; omega; rfl)
      · try simp only [decide_eq_true_eq, decide_eq_false_iff_not, Bool.not_eq_true', Bool.not_eq_false', Bool.not_eq_eq_eq_not, Bool.not_true, Bool.not_false, Bool.and_eq_true, Bool.or_eq_true, Bool.or_eq_false_iff, beq_iff_eq, beq_eq_false_iff_ne, ne_eq, Int.not_lt, Int.not_le, Decidable.not_not] at hc18
        refine g_skip ?_
        refine g_block_normal ?_
        refine g_next hK5 ?_
        refine g_region ?_
        refine g_step rfl (s_val (v_add rfl rfl (by omega)) rfl rfl ?_)
        refine g_step rfl (s_val (v_move rfl) rfl rfl ?_)
        refine g_nil ?_
        first | refine g_keep [0, 6, 7] [] [] (keep_cons rfl (keep_cons rfl (keep_cons rfl keep_nil))) lkeep_nil keep_nil rfl ?_ | refine g_keep [0, 6, 7] [] [] rfl rfl rfl rfl ?_
        exact g_round _ (by omega) ⟨k + 1, by omega, rfl, rfl, rfl, rfl, rfl, by rw [drop_cons hx, kIdx, if_neg (by rintro ⟨h1, h2⟩; first | omega | contradiction)] at hc; exact hc⟩
    · try simp only [decide_eq_true_eq, decide_eq_false_iff_not, Bool.not_eq_true', Bool.not_eq_false', Bool.not_eq_eq_eq_not, Bool.not_true, Bool.not_false, Bool.and_eq_true, Bool.or_eq_true, Bool.or_eq_false_iff, beq_iff_eq, beq_eq_false_iff_ne, ne_eq, Int.not_lt, Int.not_le, Decidable.not_not] at hg13
      refine g_step_no (j := 2) (t := 13) rfl rfl rfl rfl rfl rfl rfl ?_
      refine g_step_no (j := 2) (t := 13) rfl rfl rfl rfl rfl rfl rfl ?_
      refine g_step_no (j := 2) (t := 13) rfl rfl rfl rfl rfl rfl rfl ?_
      refine g_step_no (j := 2) (t := 13) rfl rfl rfl rfl rfl rfl rfl ?_
      refine g_step rfl (s_val (v_pick_f rfl rfl) rfl rfl ?_)
      refine g_nil ?_
      refine g_next hK7 ?_
      refine g_cond rfl (fun h => by cases h) (fun _ => ?_)
      refine g_skip ?_
      refine g_block_normal ?_
      refine g_next hK5 ?_
      refine g_region ?_
      refine g_step rfl (s_val (v_add rfl rfl (by omega)) rfl rfl ?_)
      refine g_step rfl (s_val (v_move rfl) rfl rfl ?_)
      refine g_nil ?_
      first | refine g_keep [0, 6, 7] [] [] (keep_cons rfl (keep_cons rfl (keep_cons rfl keep_nil))) lkeep_nil keep_nil rfl ?_ | refine g_keep [0, 6, 7] [] [] rfl rfl rfl rfl ?_
      exact g_round _ (by omega) ⟨k + 1, by omega, rfl, rfl, rfl, rfl, rfl, by rw [drop_cons hx, kIdx, if_neg (by rintro ⟨h1, h2⟩; first | omega | contradiction)] at hc; exact hc⟩
  · try simp only [decide_eq_true_eq, decide_eq_false_iff_not, Bool.not_eq_true', Bool.not_eq_false', Bool.not_eq_eq_eq_not, Bool.not_true, Bool.not_false, Bool.and_eq_true, Bool.or_eq_true, Bool.or_eq_false_iff, beq_iff_eq, beq_eq_false_iff_ne, ne_eq, Int.not_lt, Int.not_le, Decidable.not_not] at hc8
    obtain rfl : k = 10 := by omega
    refine g_exit ?_
    refine g_then_exit ?_
    refine g_then_exit ?_
    refine g_block_same ?_
    refine g_next hK1 ?_
    refine g_seq (fun K9 hK9 => ?_)
    refine g_region ?_
    refine g_step rfl (s_val (v_assign rfl) rfl rfl ?_)
    refine g_step rfl (s_val (v_assign rfl) rfl rfl ?_)
    refine g_nil ?_
    refine g_next hK9 ?_
    refine g_ret ?_
    refine g_end2 (.inl rfl) Try.results19 (.tmp rfl) (.tmp rfl) [] (ASub.refl _) (AHeap.sub_refl _) (fun p hp => by cases hp) ⟨rfl, ?_⟩
    first | (rw [← hc]; rfl; done) | (rw [← hc]; rfl; rfl)

theorem awake10_ok (G : AHeap) : PCalls Try.prog 14 [] G (fun v => v = .bool true) := by
  refine LCalls.intro 35 fi14 rfl Try.ntmps14 rfl (fun _ h => h.elim) (fun H hH w0 hw0 => ?_)
  refine g_seq (fun K0 hK0 => ?_)
  refine g_region ?_
  refine g_step rfl (s_val (v_assign rfl) rfl rfl ?_)
  refine g_nil ?_
  refine g_next hK0 ?_
  refine g_seq (fun K1 hK1 => ?_)
  refine g_region ?_
  refine g_step rfl (s_callp rfl rfl rfl (mkind_ok _ _) ?_)
  rintro _ rfl
  refine g_step rfl (s_val (v_move rfl) rfl rfl ?_)
  refine g_step rfl (s_val (v_extract rfl rfl) rfl rfl ?_)
  refine g_step rfl (s_val (v_extract rfl rfl) rfl rfl ?_)
  refine g_step rfl (s_val (v_assign rfl) rfl rfl ?_)
  refine g_step rfl (s_val (v_assign rfl) rfl rfl ?_)
  refine g_nil ?_
  refine g_next hK1 ?_
  refine g_seq (fun K2 hK2 => ?_)
  refine g_region ?_
  refine g_step rfl (s_val (v_sub (b := (encSp ⟨1, 3⟩)) (v_build (vs := [(0, _), (1, _)]) (zs := [(.int .i64 0), (.int .i64 0)]) (cells := [_, _]) ty25 pl25 rfl rfl rfl) (ASub.of_wk rfl)) rfl rfl ?_)
  refine g_step rfl (s_alloc (av := (.agg [(.int .i64 0), (.int .i64 0)])) ty25 rfl rfl rfl rfl ?_)
  refine g_step rfl (s_store_all ty25 rfl rfl rfl rfl rfl rfl ?_)
  refine g_nil ?_
  refine g_next hK2 ?_
  refine g_seq (fun K3 hK3 => ?_)
  refine g_region ?_
  refine g_step rfl (s_callp rfl rfl rfl (has_ok _ _ _) ?_)
  rintro _ rfl
  refine g_step rfl (s_val (v_move rfl) rfl rfl ?_)
  refine g_split 10 rfl (fun hg10 => ?_) (fun hg10 => ?_)
  · try simp only [decide_eq_true_eq, decide_eq_false_iff_not, Bool.not_eq_true', Bool.not_eq_false', Bool.not_eq_eq_eq_not, Bool.not_true, Bool.not_false, Bool.and_eq_true, Bool.or_eq_true, Bool.or_eq_false_iff, beq_iff_eq, beq_eq_false_iff_ne, ne_eq, Int.not_lt, Int.not_le, Decidable.not_not] at hg10
    refine g_step_yes (j := 1) (t := 10) rfl rfl rfl rfl (s_callp rfl rfl rfl (has_ok _ _ _) ?_)
    rintro _ rfl
    refine g_step rfl (s_val (v_pick_t rfl rfl) rfl rfl ?_)
    refine g_step rfl (s_val (v_move rfl) rfl rfl ?_)
    refine g_split 13 rfl (fun hg13 => ?_) (fun hg13 => ?_)
    · try simp only [decide_eq_true_eq, decide_eq_false_iff_not, Bool.not_eq_true', Bool.not_eq_false', Bool.not_eq_eq_eq_not, Bool.not_true, Bool.not_false, Bool.and_eq_true, Bool.or_eq_true, Bool.or_eq_false_iff, beq_iff_eq, beq_eq_false_iff_ne, ne_eq, Int.not_lt, Int.not_le, Decidable.not_not] at hg13
      refine g_step_yes (j := 4) (t := 13) rfl rfl rfl rfl (s_callp rfl rfl rfl (has_ok _ _ _) ?_)
      rintro _ rfl
      refine g_step_yes (j := 4) (t := 13) rfl rfl rfl rfl (s_val (v_not rfl) rfl rfl ?_)
      refine g_step rfl (s_val (v_pick_t rfl rfl) rfl rfl ?_)
      refine g_step rfl (s_val (v_move rfl) rfl rfl ?_)
      refine g_split 17 rfl (fun hg17 => ?_) (fun hg17 => ?_)
      · try simp only [decide_eq_true_eq, decide_eq_false_iff_not, Bool.not_eq_true', Bool.not_eq_false', Bool.not_eq_eq_eq_not, Bool.not_true, Bool.not_false, Bool.and_eq_true, Bool.or_eq_true, Bool.or_eq_false_iff, beq_iff_eq, beq_eq_false_iff_ne, ne_eq, Int.not_lt, Int.not_le, Decidable.not_not] at hg17
        refine g_step_yes (j := 8) (t := 17) rfl rfl rfl rfl (s_val (v_move rfl) rfl rfl ?_)
        refine g_step_yes (j := 8) (t := 17) rfl rfl rfl rfl (s_val (v_eql rfl rfl) rfl rfl ?_)
        refine g_step rfl (s_val (v_pick_t rfl rfl) rfl rfl ?_)
        refine g_step rfl (s_val (v_move rfl) rfl rfl ?_)
        refine g_split 21 rfl (fun hg21 => ?_) (fun hg21 => ?_)
        · try simp only [decide_eq_true_eq, decide_eq_false_iff_not, Bool.not_eq_true', Bool.not_eq_false', Bool.not_eq_eq_eq_not, Bool.not_true, Bool.not_false, Bool.and_eq_true, Bool.or_eq_true, Bool.or_eq_false_iff, beq_iff_eq, beq_eq_false_iff_ne, ne_eq, Int.not_lt, Int.not_le, Decidable.not_not] at hg21
          refine g_step_yes (j := 12) (t := 21) rfl rfl rfl rfl (s_val (v_move rfl) rfl rfl ?_)
          refine g_step rfl (s_val (v_pick_t rfl rfl) rfl rfl ?_)
          refine g_step rfl (s_val (v_move rfl) rfl rfl ?_)
          refine g_split 24 rfl (fun hg24 => ?_) (fun hg24 => ?_)
          · try simp only [decide_eq_true_eq, decide_eq_false_iff_not, Bool.not_eq_true', Bool.not_eq_false', Bool.not_eq_eq_eq_not, Bool.not_true, Bool.not_false, Bool.and_eq_true, Bool.or_eq_true, Bool.or_eq_false_iff, beq_iff_eq, beq_eq_false_iff_ne, ne_eq, Int.not_lt, Int.not_le, Decidable.not_not] at hg24
            refine g_step_yes (j := 15) (t := 24) rfl rfl rfl rfl (s_val (by first | exact v_loadl_all ty25 rfl rfl rfl rfl rfl | exact v_loadl_part (cs := [_, _]) ty25 rfl rfl rfl rfl rfl rfl) rfl rfl ?_)
            refine g_step_yes (j := 15) (t := 24) rfl rfl rfl rfl (s_val (v_sub (b := (encM ⟨7, 0, 0, ⟨1, 3⟩, 0, 0, 0, 3, 2, []⟩)) (v_build (vs := [(0, _), (3, _), (7, _), (8, _)]) (zs := [(.int .i64 0), (.int .i64 0), (.int .i64 0), (.int .i64 0), (.int .i64 0), (.int .i64 0), (.int .i64 0), (.int .i64 0), (.int .i64 0), (.int .i64 0), .nil0]) (cells := [_, _, _, _, _, _, _, _, _, _, _]) ty30 pl30 rfl rfl rfl) (ASub.of_wk rfl)) rfl rfl ?_)
            refine g_step_yes (j := 15) (t := 24) rfl rfl rfl rfl (s_callp rfl rfl rfl (mvalid_ok ⟨7, 0, 0, ⟨1, 3⟩, 0, 0, 0, 3, 2, []⟩ _ (by simp) (by simp)) ?_)
            rintro _ rfl
            refine g_step rfl (s_val (v_pick_t rfl rfl) rfl rfl ?_)
            refine g_step rfl (s_val (v_move rfl) rfl rfl ?_)
            refine g_split 29 rfl (fun hg29 => ?_) (fun hg29 => ?_)
            · try simp only [decide_eq_true_eq, decide_eq_false_iff_not, Bool.not_eq_true', Bool.not_eq_false', Bool.not_eq_eq_eq_not, Bool.not_true, Bool.not_false, Bool.and_eq_true, Bool.or_eq_true, Bool.or_eq_false_iff, beq_iff_eq, beq_eq_false_iff_ne, ne_eq, Int.not_lt, Int.not_le, Decidable.not_not] at hg29
              refine g_step_yes (j := 20) (t := 29) rfl rfl rfl rfl (s_val (by first | exact v_loadl_all ty25 rfl rfl rfl rfl rfl | exact v_loadl_part (cs := [_, _]) ty25 rfl rfl rfl rfl rfl rfl) rfl rfl ?_)
              refine g_step_yes (j := 20) (t := 29) rfl rfl rfl rfl (s_val (v_sub (b := (encM ⟨7, 0, 0, ⟨1, 3⟩, 0, 0, 0, 3, 3, []⟩)) (v_build (vs := [(0, _), (3, _), (7, _), (8, _)]) (zs := [(.int .i64 0), (.int .i64 0), (.int .i64 0), (.int .i64 0), (.int .i64 0), (.int .i64 0), (.int .i64 0), (.int .i64 0), (.int .i64 0), (.int .i64 0), .nil0]) (cells := [_, _, _, _, _, _, _, _, _, _, _]) ty30 pl30 rfl rfl rfl) (ASub.of_wk rfl)) rfl rfl ?_)
              refine g_step_yes (j := 20) (t := 29) rfl rfl rfl rfl (s_callp rfl rfl rfl (mvalid_ok ⟨7, 0, 0, ⟨1, 3⟩, 0, 0, 0, 3, 3, []⟩ _ (by simp) (by simp)) ?_)
              rintro _ rfl
              refine g_step_yes (j := 20) (t := 29) rfl rfl rfl rfl (s_val (v_not rfl) rfl rfl ?_)
              refine g_step rfl (s_val (v_pick_t rfl rfl) rfl rfl ?_)
              refine g_step rfl (s_val (v_assign rfl) rfl rfl ?_)
              refine g_nil ?_
              refine g_next hK3 ?_
              first | refine g_keep [0] [] [] (keep_cons rfl keep_nil) lkeep_nil keep_nil rfl ?_ | refine g_keep [0] [] [] rfl rfl rfl rfl ?_
              refine g_ret ?_
              refine g_end1 (.inl rfl) Try.results14 (.tmp rfl) [] (ASub.refl _) (AHeap.sub_refl _) (fun p hp => by cases hp) ⟨rfl, ?_⟩
              first | (exact congrArg AV.bool (by decide); done) | (exact congrArg AV.bool (by decide); rfl)
            · exfalso; (try simp only [decide_eq_true_eq, decide_eq_false_iff_not, Bool.not_eq_true', Bool.not_eq_false', Bool.not_eq_eq_eq_not, Bool.not_true, Bool.not_false, Bool.and_eq_true, Bool.or_eq_true, Bool.or_eq_false_iff, beq_iff_eq, beq_eq_false_iff_ne, ne_eq, Int.not_lt, Int.not_le, Decidable.not_not] at hg29); revert hg29; decide
          · exfalso; (try simp only [decide_eq_true_eq, decide_eq_false_iff_not, Bool.not_eq_true', Bool.not_eq_false', Bool.not_eq_eq_eq_not, Bool.not_true, Bool.not_false, Bool.and_eq_true, Bool.or_eq_true, Bool.or_eq_false_iff, beq_iff_eq, beq_eq_false_iff_ne, ne_eq, Int.not_lt, Int.not_le, Decidable.not_not] at hg24); revert hg24; decide
        · exfalso; (try simp only [decide_eq_true_eq, decide_eq_false_iff_not, Bool.not_eq_true', Bool.not_eq_false', Bool.not_eq_eq_eq_not, Bool.not_true, Bool.not_false, Bool.and_eq_true, Bool.or_eq_true, Bool.or_eq_false_iff, beq_iff_eq, beq_eq_false_iff_ne, ne_eq, Int.not_lt, Int.not_le, Decidable.not_not] at hg21); revert hg21; decide
      · exfalso; (try simp only [decide_eq_true_eq, decide_eq_false_iff_not, Bool.not_eq_true', Bool.not_eq_false', Bool.not_eq_eq_eq_not, Bool.not_true, Bool.not_false, Bool.and_eq_true, Bool.or_eq_true, Bool.or_eq_false_iff, beq_iff_eq, beq_eq_false_iff_ne, ne_eq, Int.not_lt, Int.not_le, Decidable.not_not] at hg17); revert hg17; decide
    · exfalso; (try simp only [decide_eq_true_eq, decide_eq_false_iff_not, Bool.not_eq_true', Bool.not_eq_false', Bool.not_eq_eq_eq_not, Bool.not_true, Bool.not_false, Bool.and_eq_true, Bool.or_eq_true, Bool.or_eq_false_iff, beq_iff_eq, beq_eq_false_iff_ne, ne_eq, Int.not_lt, Int.not_le, Decidable.not_not] at hg13); revert hg13; decide
  · exfalso; (try simp only [decide_eq_true_eq, decide_eq_false_iff_not, Bool.not_eq_true', Bool.not_eq_false', Bool.not_eq_eq_eq_not, Bool.not_true, Bool.not_false, Bool.and_eq_true, Bool.or_eq_true, Bool.or_eq_false_iff, beq_iff_eq, beq_eq_false_iff_ne, ne_eq, Int.not_lt, Int.not_le, Decidable.not_not] at hg10); revert hg10; decide

theorem msgSames_ok (a b : Mg) (hha : ∀ r ∈ a.recs, Held r.bag) (hhb : ∀ r ∈ b.recs, Held r.bag) (hla : a.recs.length ≤ 140737488351232) (hlb : b.recs.length ≤ 140737488351232) (G : AHeap) : PCalls Try.prog 10 [encM a, encM b] G (fun v => v = .bool true) := by
  refine LCalls.intro 38 fi10 rfl Try.ntmps10 rfl (fun _ h => h.elim) (fun H hH w0 hw0 => ?_)
  refine g_seq (fun K0 hK0 => ?_)
  refine g_region ?_
  refine g_step rfl (s_box rfl rfl rfl rfl ?_)
  refine g_step rfl (s_box rfl rfl rfl rfl ?_)
  refine g_step rfl (s_val (v_assign rfl) rfl rfl ?_)
  refine g_nil ?_
  refine g_next hK0 ?_
  refine g_seq (fun K1 hK1 => ?_)
  refine g_seq (fun K2 hK2 => ?_)
  refine g_region ?_
  refine g_step rfl (s_val (by first | exact v_loadl_all ty30 rfl rfl rfl rfl rfl | exact v_loadl_part (cs := [_, _, _, _, _, _, _, _, _, _, _]) ty30 rfl rfl rfl rfl rfl rfl) rfl rfl ?_)
  refine g_step rfl (s_callp rfl rfl rfl (mfew_ok a _ hha hla) ?_)
  rintro _ rfl
  refine g_step rfl (s_val (v_not rfl) rfl rfl ?_)
  refine g_step rfl (s_val (v_move rfl) rfl rfl ?_)
  refine g_split 8 rfl (fun hg8 => ?_) (fun hg8 => ?_)
  · try simp only [decide_eq_true_eq, decide_eq_false_iff_not, Bool.not_eq_true', Bool.not_eq_false', Bool.not_eq_eq_eq_not, Bool.not_true, Bool.not_false, Bool.and_eq_true, Bool.or_eq_true, Bool.or_eq_false_iff, beq_iff_eq, beq_eq_false_iff_ne, ne_eq, Int.not_lt, Int.not_le, Decidable.not_not] at hg8
    refine g_step_no (j := 3) (t := 8) rfl rfl rfl rfl rfl rfl rfl ?_
    refine g_step_no (j := 3) (t := 8) rfl rfl rfl rfl rfl rfl rfl ?_
    refine g_step_no (j := 3) (t := 8) rfl rfl rfl rfl rfl rfl rfl ?_
    refine g_step rfl (s_val (v_pick_t rfl rfl) rfl rfl ?_)
    refine g_nil ?_
    refine g_next hK2 ?_
    refine g_cond rfl (fun _ => ?_) (fun h => by cases h)
    refine g_seq (fun K3 hK3 => ?_)
    refine g_region ?_
    refine g_step rfl (s_callp rfl rfl rfl (awake10_ok _) ?_)
    rintro _ rfl
    refine g_step rfl (s_val (v_assign rfl) rfl rfl ?_)
    refine g_nil ?_
    refine g_next hK3 ?_
    refine g_ret ?_
    refine g_then_ret ?_
    refine g_end1 (.inl rfl) Try.results10 (.tmp rfl) [] (ASub.refl _) (AHeap.sub_refl _) (fun p hp => by cases hp) ⟨rfl, ?_⟩
    rfl
  · try simp only [decide_eq_true_eq, decide_eq_false_iff_not, Bool.not_eq_true', Bool.not_eq_false', Bool.not_eq_eq_eq_not, Bool.not_true, Bool.not_false, Bool.and_eq_true, Bool.or_eq_true, Bool.or_eq_false_iff, beq_iff_eq, beq_eq_false_iff_ne, ne_eq, Int.not_lt, Int.not_le, Decidable.not_not] at hg8
    refine g_step_yes (j := 3) (t := 8) rfl rfl rfl rfl (s_val (by first | exact v_loadl_all ty30 rfl rfl rfl rfl rfl | exact v_loadl_part (cs := [_, _, _, _, _, _, _, _, _, _, _]) ty30 rfl rfl rfl rfl rfl rfl) rfl rfl ?_)
    refine g_step_yes (j := 3) (t := 8) rfl rfl rfl rfl (s_callp rfl rfl rfl (mfew_ok b _ hhb hlb) ?_)
    rintro _ rfl
    refine g_step_yes (j := 3) (t := 8) rfl rfl rfl rfl (s_val (v_not rfl) rfl rfl ?_)
    refine g_step rfl (s_val (v_pick_f rfl rfl) rfl rfl ?_)
    refine g_nil ?_
    refine g_next hK2 ?_
    refine g_cond rfl (fun hc12 => ?_) (fun hc12 => ?_)
    · try simp only [decide_eq_true_eq, decide_eq_false_iff_not, Bool.not_eq_true', Bool.not_eq_false', Bool.not_eq_eq_eq_not, Bool.not_true, Bool.not_false, Bool.and_eq_true, Bool.or_eq_true, Bool.or_eq_false_iff, beq_iff_eq, beq_eq_false_iff_ne, ne_eq, Int.not_lt, Int.not_le, Decidable.not_not] at hc12
      refine g_seq (fun K4 hK4 => ?_)
      refine g_region ?_
      refine g_step rfl (s_callp rfl rfl rfl (awake10_ok _) ?_)
      rintro _ rfl
      refine g_step rfl (s_val (v_assign rfl) rfl rfl ?_)
      refine g_nil ?_
      refine g_next hK4 ?_
      refine g_ret ?_
      refine g_then_ret ?_
      refine g_end1 (.inl rfl) Try.results10 (.tmp rfl) [] (ASub.refl _) (AHeap.sub_refl _) (fun p hp => by cases hp) ⟨rfl, ?_⟩
      rfl
    · try simp only [decide_eq_true_eq, decide_eq_false_iff_not, Bool.not_eq_true', Bool.not_eq_false', Bool.not_eq_eq_eq_not, Bool.not_true, Bool.not_false, Bool.and_eq_true, Bool.or_eq_true, Bool.or_eq_false_iff, beq_iff_eq, beq_eq_false_iff_ne, ne_eq, Int.not_lt, Int.not_le, Decidable.not_not] at hc12
      have hf : fewL a.recs = true ∧ fewL b.recs = true := by first | exact ⟨by assumption, by assumption⟩ | simp_all
      obtain ⟨ha20, hsa⟩ := fewL_small hf.1
      obtain ⟨hb20, hsb⟩ := fewL_small hf.2
      refine g_skip ?_
      refine g_next hK1 ?_
      refine g_seq (fun K5 hK5 => ?_)
      refine g_draw (n := 25) (fun j => !([] : List Nat).contains j) rfl rfl ?_
      refine m_take 0 true rfl rfl (by kernel_rfl) (by kernel_rfl) (by kernel_rfl) (fun _ _ _ _ h => h) (by first | exact v_loadl_all ty30 rfl rfl rfl rfl rfl | exact v_loadl_part (cs := [_, _, _, _, _, _, _, _, _, _, _]) ty30 rfl rfl rfl rfl rfl rfl) rfl rfl ?_
      refine m_take 1 true rfl rfl (by kernel_rfl) (by kernel_rfl) (by kernel_rfl) (fun _ _ _ _ h => h) (by first | exact v_loadl_all ty30 rfl rfl rfl rfl rfl | exact v_loadl_part (cs := [_, _, _, _, _, _, _, _, _, _, _]) ty30 rfl rfl rfl rfl rfl rfl) rfl rfl ?_
      refine m_take 3 true rfl rfl (by kernel_rfl) (by kernel_rfl) (by kernel_rfl) (fun _ _ _ _ h => h) (by first | exact v_loadl_all ty30 rfl rfl rfl rfl rfl | exact v_loadl_part (cs := [_, _, _, _, _, _, _, _, _, _, _]) ty30 rfl rfl rfl rfl rfl rfl) rfl rfl ?_
      refine m_take 4 true rfl rfl (by kernel_rfl) (by kernel_rfl) (by kernel_rfl) (fun _ _ _ _ h => h) (by first | exact v_loadl_all ty30 rfl rfl rfl rfl rfl | exact v_loadl_part (cs := [_, _, _, _, _, _, _, _, _, _, _]) ty30 rfl rfl rfl rfl rfl rfl) rfl rfl ?_
      refine m_one 2 (by kernel_rfl) rfl rfl ?_
      refine sm_callp rfl rfl rfl (msame_ok a b _ (by omega) hsa) ?_
      rintro _ rfl
      refine m_one 5 (by kernel_rfl) rfl rfl ?_
      refine sm_callp rfl rfl rfl (malike_ok a b _ (by omega) hsa) ?_
      rintro _ rfl
      refine m_take 6 false rfl rfl (by kernel_rfl) (by kernel_rfl) (by kernel_rfl) (fun _ _ _ _ h => h) (v_bool_eql ty4 rfl rfl) rfl rfl ?_
      refine m_take 7 false rfl rfl (by kernel_rfl) (by kernel_rfl) (by kernel_rfl) (fun _ _ _ _ h => h) (v_move rfl) rfl rfl ?_
      refine m_split 21 rfl (fun hg21 => ?_) (fun hg21 => ?_)
      · try simp only [decide_eq_true_eq, decide_eq_false_iff_not, Bool.not_eq_true', Bool.not_eq_false', Bool.not_eq_eq_eq_not, Bool.not_true, Bool.not_false, Bool.and_eq_true, Bool.or_eq_true, Bool.or_eq_false_iff, beq_iff_eq, beq_eq_false_iff_ne, ne_eq, Int.not_lt, Int.not_le, Decidable.not_not] at hg21
        refine m_take_yes (j := 7) (t := 21) 8 true rfl rfl rfl rfl rfl (by kernel_rfl) (by kernel_rfl) (by kernel_rfl) (fun _ _ _ _ h => h) (by first | exact v_loadl_all ty30 rfl rfl rfl rfl rfl | exact v_loadl_part (cs := [_, _, _, _, _, _, _, _, _, _, _]) ty30 rfl rfl rfl rfl rfl rfl) rfl rfl ?_
        refine m_take_yes (j := 7) (t := 21) 9 true rfl rfl rfl rfl rfl (by kernel_rfl) (by kernel_rfl) (by kernel_rfl) (fun _ _ _ _ h => h) (by first | exact v_loadl_all ty30 rfl rfl rfl rfl rfl | exact v_loadl_part (cs := [_, _, _, _, _, _, _, _, _, _, _]) ty30 rfl rfl rfl rfl rfl rfl) rfl rfl ?_
        refine m_take_yes (j := 7) (t := 21) 11 true rfl rfl rfl rfl rfl (by kernel_rfl) (by kernel_rfl) (by kernel_rfl) (fun _ _ _ _ h => h) (by first | exact v_loadl_all ty30 rfl rfl rfl rfl rfl | exact v_loadl_part (cs := [_, _, _, _, _, _, _, _, _, _, _]) ty30 rfl rfl rfl rfl rfl rfl) rfl rfl ?_
        refine m_take_yes (j := 7) (t := 21) 12 true rfl rfl rfl rfl rfl (by kernel_rfl) (by kernel_rfl) (by kernel_rfl) (fun _ _ _ _ h => h) (by first | exact v_loadl_all ty30 rfl rfl rfl rfl rfl | exact v_loadl_part (cs := [_, _, _, _, _, _, _, _, _, _, _]) ty30 rfl rfl rfl rfl rfl rfl) rfl rfl ?_
        refine m_one_yes (j := 7) (t := 21) 10 (by kernel_rfl) rfl rfl rfl rfl rfl ?_
        refine sm_callp rfl rfl rfl (msame_ok b a _ (by omega) hsb) ?_
        rintro _ rfl
        refine m_one_yes (j := 7) (t := 21) 13 (by kernel_rfl) rfl rfl rfl rfl rfl ?_
        refine sm_callp rfl rfl rfl (malike_ok a b _ (by omega) hsa) ?_
        rintro _ rfl
        refine m_take_yes (j := 7) (t := 21) 14 false rfl rfl rfl rfl rfl (by kernel_rfl) (by kernel_rfl) (by kernel_rfl) (fun _ _ _ _ h => h) (v_bool_eql ty4 rfl rfl) rfl rfl ?_
        refine m_take 15 false rfl rfl (by kernel_rfl) (by kernel_rfl) (by kernel_rfl) (fun _ _ _ _ h => h) (v_pick_t rfl rfl) rfl rfl ?_
        refine m_take 16 false rfl rfl (by kernel_rfl) (by kernel_rfl) (by kernel_rfl) (fun _ _ _ _ h => h) (v_move rfl) rfl rfl ?_
        refine m_split 30 rfl (fun hg30 => ?_) (fun hg30 => ?_)
        · try simp only [decide_eq_true_eq, decide_eq_false_iff_not, Bool.not_eq_true', Bool.not_eq_false', Bool.not_eq_eq_eq_not, Bool.not_true, Bool.not_false, Bool.and_eq_true, Bool.or_eq_true, Bool.or_eq_false_iff, beq_iff_eq, beq_eq_false_iff_ne, ne_eq, Int.not_lt, Int.not_le, Decidable.not_not] at hg30
          refine m_take_yes (j := 16) (t := 30) 17 true rfl rfl rfl rfl rfl (by kernel_rfl) (by kernel_rfl) (by kernel_rfl) (fun _ _ _ _ h => h) (by first | exact v_loadl_all ty30 rfl rfl rfl rfl rfl | exact v_loadl_part (cs := [_, _, _, _, _, _, _, _, _, _, _]) ty30 rfl rfl rfl rfl rfl rfl) rfl rfl ?_
          refine m_take_yes (j := 16) (t := 30) 18 true rfl rfl rfl rfl rfl (by kernel_rfl) (by kernel_rfl) (by kernel_rfl) (fun _ _ _ _ h => h) (by first | exact v_loadl_all ty30 rfl rfl rfl rfl rfl | exact v_loadl_part (cs := [_, _, _, _, _, _, _, _, _, _, _]) ty30 rfl rfl rfl rfl rfl rfl) rfl rfl ?_
          refine m_one_yes (j := 16) (t := 30) 19 (by kernel_rfl) rfl rfl rfl rfl rfl ?_
          refine sm_callp rfl rfl rfl (msame_ok a a _ (by omega) hsa) ?_
          rintro _ rfl
          refine m_take 20 false rfl rfl (by kernel_rfl) (by kernel_rfl) (by kernel_rfl) (fun _ _ _ _ h => h) (v_pick_t rfl rfl) rfl rfl ?_
          refine m_take 21 false rfl rfl (by kernel_rfl) (by kernel_rfl) (by kernel_rfl) (fun _ _ _ _ h => h) (v_move rfl) rfl rfl ?_
          refine m_split 35 rfl (fun hg35 => ?_) (fun hg35 => ?_)
          · try simp only [decide_eq_true_eq, decide_eq_false_iff_not, Bool.not_eq_true', Bool.not_eq_false', Bool.not_eq_eq_eq_not, Bool.not_true, Bool.not_false, Bool.and_eq_true, Bool.or_eq_true, Bool.or_eq_false_iff, beq_iff_eq, beq_eq_false_iff_ne, ne_eq, Int.not_lt, Int.not_le, Decidable.not_not] at hg35
            refine m_one_yes (j := 21) (t := 35) 22 (by kernel_rfl) rfl rfl rfl rfl rfl ?_
            refine sm_callp rfl rfl rfl (awake10_ok _) ?_
            rintro _ rfl
            refine m_take 23 false rfl rfl (by kernel_rfl) (by kernel_rfl) (by kernel_rfl) (fun _ _ _ _ h => h) (v_pick_t rfl rfl) rfl rfl ?_
            refine m_take 24 false rfl rfl (by kernel_rfl) (by kernel_rfl) (by kernel_rfl) (fun _ _ _ _ h => h) (v_assign rfl) rfl rfl ?_
            refine m_done (by kernel_rfl) ?_
            refine g_next hK5 ?_
            first | refine g_keep [4] [] [] (keep_cons rfl keep_nil) lkeep_nil keep_nil rfl ?_ | refine g_keep [4] [] [] rfl rfl rfl rfl ?_
            refine g_ret ?_
            refine g_end1 (.inl rfl) Try.results10 (.tmp rfl) [] (ASub.refl _) (AHeap.sub_refl _) (fun p hp => by cases hp) ⟨rfl, ?_⟩
            rfl
          · exfalso; (try simp only [decide_eq_true_eq, decide_eq_false_iff_not, Bool.not_eq_true', Bool.not_eq_false', Bool.not_eq_eq_eq_not, Bool.not_true, Bool.not_false, Bool.and_eq_true, Bool.or_eq_true, Bool.or_eq_false_iff, beq_iff_eq, beq_eq_false_iff_ne, ne_eq, Int.not_lt, Int.not_le, Decidable.not_not] at hg35); simp at hg35
        · exfalso; (try simp only [decide_eq_true_eq, decide_eq_false_iff_not, Bool.not_eq_true', Bool.not_eq_false', Bool.not_eq_eq_eq_not, Bool.not_true, Bool.not_false, Bool.and_eq_true, Bool.or_eq_true, Bool.or_eq_false_iff, beq_iff_eq, beq_eq_false_iff_ne, ne_eq, Int.not_lt, Int.not_le, Decidable.not_not] at hg30); simp [eq_comm] at hg30
      · exfalso; (try simp only [decide_eq_true_eq, decide_eq_false_iff_not, Bool.not_eq_true', Bool.not_eq_false', Bool.not_eq_eq_eq_not, Bool.not_true, Bool.not_false, Bool.and_eq_true, Bool.or_eq_true, Bool.or_eq_false_iff, beq_iff_eq, beq_eq_false_iff_ne, ne_eq, Int.not_lt, Int.not_le, Decidable.not_not] at hg21); simp at hg21

end Go.Proofs.Ytnkcofpkmnohkaa

import Derived.Test.YtnkcofpkmnohkaaMsgAwake
import Derived.Test.YtnkcofpkmnohkaaPMsg2
set_option maxHeartbeats 8000000
set_option linter.unusedSimpArgs false
set_option linter.unusedVariables false
set_option maxRecDepth 100000
namespace Go.Proofs.Ytnkcofpkmnohkaa
open Go Go.Proofs.Ytnkcofpkmnohkaa.AM
theorem msgParts_ok (kd p : Int) (s : ByteArray) (hs : s.size ≤ 140737488351232) (G : AHeap) : PCalls Try.prog 4 [.int .i64 kd, .int .i64 p, .str s] G (fun v => v = .bool true) := by
  refine LCalls.intro 90 fi4 rfl Try.ntmps4 rfl (fun _ h => h.elim) (fun H hH w0 hw0 => ?_)
  refine g_seq (fun K0 hK0 => ?_)
  refine g_region ?_
  refine g_step rfl (s_val (v_assign rfl) rfl rfl ?_)
  refine g_nil ?_
  refine g_next hK0 ?_
  refine g_seq (fun K1 hK1 => ?_)
  refine g_seq (fun K2 hK2 => ?_)
  refine g_region ?_
  refine g_step rfl (s_val (v_move rfl) rfl rfl ?_)
  refine g_step rfl (s_val (v_len_str ty9 rfl) rfl rfl ?_)
  refine g_step rfl (s_val (v_gtr rfl rfl) rfl rfl ?_)
  refine g_nil ?_
  refine g_next hK2 ?_
  refine g_cond rfl (fun hc14 => ?_) (fun hc14 => ?_)
  · try simp only [decide_eq_true_eq, decide_eq_false_iff_not, Bool.not_eq_true', Bool.not_eq_false', Bool.not_eq_eq_eq_not, Bool.not_true, Bool.not_false, Bool.and_eq_true, Bool.or_eq_true, Bool.or_eq_false_iff, beq_iff_eq, beq_eq_false_iff_ne, ne_eq, Int.not_lt, Int.not_le, Decidable.not_not] at hc14
    refine g_seq (fun K3 hK3 => ?_)
    refine g_region ?_
    refine g_step rfl (s_callp rfl rfl rfl (awake10_ok _) ?_)
    rintro _ rfl
    refine g_step rfl (s_val (v_assign rfl) rfl rfl ?_)
    refine g_nil ?_
    refine g_next hK3 ?_
    refine g_ret ?_
    refine g_then_ret ?_
    refine g_end1 (.inl rfl) Try.results4 (.tmp rfl) [] (ASub.refl _) (AHeap.sub_refl _) (fun p hp => by cases hp) ⟨rfl, ?_⟩
    rfl
  · try simp only [decide_eq_true_eq, decide_eq_false_iff_not, Bool.not_eq_true', Bool.not_eq_false', Bool.not_eq_eq_eq_not, Bool.not_true, Bool.not_false, Bool.and_eq_true, Bool.or_eq_true, Bool.or_eq_false_iff, beq_iff_eq, beq_eq_false_iff_ne, ne_eq, Int.not_lt, Int.not_le, Decidable.not_not] at hc14
    refine g_skip ?_
    refine g_next hK1 ?_
    refine g_seq (fun K4 hK4 => ?_)
    refine g_seq (fun K5 hK5 => ?_)
    refine g_region ?_
    refine g_step rfl (s_val (v_move rfl) rfl rfl ?_)
    refine g_step rfl (s_val (v_move rfl) rfl rfl ?_)
    refine g_step rfl (s_callp rfl rfl rfl (has_ok kd p _) ?_)
    rintro _ rfl
    refine g_step rfl (s_val (v_move rfl) rfl rfl ?_)
    refine g_step rfl (s_val (v_geq rfl rfl) rfl rfl ?_)
    refine g_step rfl (s_val (v_move rfl) rfl rfl ?_)
    refine g_split 21 rfl (fun hg21 => ?_) (fun hg21 => ?_)
    · try simp only [decide_eq_true_eq, decide_eq_false_iff_not, Bool.not_eq_true', Bool.not_eq_false', Bool.not_eq_eq_eq_not, Bool.not_true, Bool.not_false, Bool.and_eq_true, Bool.or_eq_true, Bool.or_eq_false_iff, beq_iff_eq, beq_eq_false_iff_ne, ne_eq, Int.not_lt, Int.not_le, Decidable.not_not] at hg21
      refine g_step_yes (j := 5) (t := 21) rfl rfl rfl rfl (s_val (v_move rfl) rfl rfl ?_)
      refine g_step_yes (j := 5) (t := 21) rfl rfl rfl rfl (s_val (v_leq rfl rfl) rfl rfl ?_)
      refine g_step rfl (s_val (v_pick_t rfl rfl) rfl rfl ?_)
      refine g_step rfl (s_val (v_move rfl) rfl rfl ?_)
      refine g_split 25 rfl (fun hg25 => ?_) (fun hg25 => ?_)
      · try simp only [decide_eq_true_eq, decide_eq_false_iff_not, Bool.not_eq_true', Bool.not_eq_false', Bool.not_eq_eq_eq_not, Bool.not_true, Bool.not_false, Bool.and_eq_true, Bool.or_eq_true, Bool.or_eq_false_iff, beq_iff_eq, beq_eq_false_iff_ne, ne_eq, Int.not_lt, Int.not_le, Decidable.not_not] at hg25
        refine g_step_yes (j := 9) (t := 25) rfl rfl rfl rfl (s_val (v_move rfl) rfl rfl ?_)
        refine g_step_yes (j := 9) (t := 25) rfl rfl rfl rfl (s_val (v_move rfl) rfl rfl ?_)
        refine g_step_yes (j := 9) (t := 25) rfl rfl rfl rfl (s_callp rfl rfl rfl (has17_ok kd p _) ?_)
        rintro _ rfl
        refine g_step rfl (s_val (v_pick_t rfl rfl) rfl rfl ?_)
        refine g_step rfl (s_val (v_bool_neq ty4 rfl rfl) rfl rfl ?_)
        refine g_step rfl (s_val (v_move rfl) rfl rfl ?_)
        refine g_split 31 rfl (fun hg31 => ?_) (fun hg31 => ?_)
        · exfalso; (try simp only [decide_eq_true_eq, decide_eq_false_iff_not, Bool.not_eq_true', Bool.not_eq_false', Bool.not_eq_eq_eq_not, Bool.not_true, Bool.not_false, Bool.and_eq_true, Bool.or_eq_true, Bool.or_eq_false_iff, beq_iff_eq, beq_eq_false_iff_ne, ne_eq, Int.not_lt, Int.not_le, Decidable.not_not] at hg31); first | (have h1 := @has10_in kd p; simp_all; omega) | (simp_all; done) | (have h1 := @has10_in kd p; revert hg31; cases has10 kd p <;> simp_all <;> omega)
        · try simp only [decide_eq_true_eq, decide_eq_false_iff_not, Bool.not_eq_true', Bool.not_eq_false', Bool.not_eq_eq_eq_not, Bool.not_true, Bool.not_false, Bool.and_eq_true, Bool.or_eq_true, Bool.or_eq_false_iff, beq_iff_eq, beq_eq_false_iff_ne, ne_eq, Int.not_lt, Int.not_le, Decidable.not_not] at hg31
          refine g_step_yes (j := 15) (t := 31) rfl rfl rfl rfl (s_val (v_move rfl) rfl rfl ?_)
          refine g_step_yes (j := 15) (t := 31) rfl rfl rfl rfl (s_callp rfl rfl rfl (greets_ok kd _) ?_)
          rintro _ rfl
          refine g_step_yes (j := 15) (t := 31) rfl rfl rfl rfl (s_val (v_move rfl) rfl rfl ?_)
          refine g_step_yes (j := 15) (t := 31) rfl rfl rfl rfl (s_val (v_geq rfl rfl) rfl rfl ?_)
          refine g_step_yes (j := 15) (t := 31) rfl rfl rfl rfl (s_val (v_move rfl) rfl rfl ?_)
          refine g_split 36 rfl (fun hg36 => ?_) (fun hg36 => ?_)
          · try simp only [decide_eq_true_eq, decide_eq_false_iff_not, Bool.not_eq_true', Bool.not_eq_false', Bool.not_eq_eq_eq_not, Bool.not_true, Bool.not_false, Bool.and_eq_true, Bool.or_eq_true, Bool.or_eq_false_iff, beq_iff_eq, beq_eq_false_iff_ne, ne_eq, Int.not_lt, Int.not_le, Decidable.not_not] at hg36
            refine g_step_yes (j := 20) (t := 36) rfl rfl rfl rfl (s_val (v_move rfl) rfl rfl ?_)
            refine g_step_yes (j := 20) (t := 36) rfl rfl rfl rfl (s_val (v_leq rfl rfl) rfl rfl ?_)
            refine g_step_yes (j := 15) (t := 31) rfl rfl rfl rfl (s_val (v_pick_t rfl rfl) rfl rfl ?_)
            refine g_step_yes (j := 15) (t := 31) rfl rfl rfl rfl (s_val (v_bool_neq ty4 rfl rfl) rfl rfl ?_)
            refine g_step rfl (s_val (v_pick_f rfl rfl) rfl rfl ?_)
            refine g_nil ?_
            refine g_next hK5 ?_
            first | refine g_keep [0, 2, 41] [] [] (keep_cons rfl (keep_cons rfl (keep_cons rfl keep_nil))) lkeep_nil keep_nil rfl ?_ | refine g_keep [0, 2, 41] [] [] rfl rfl rfl rfl ?_
            refine g_cond rfl (fun hc41 => ?_) (fun hc41 => ?_)
            · exfalso; (try simp only [decide_eq_true_eq, decide_eq_false_iff_not, Bool.not_eq_true', Bool.not_eq_false', Bool.not_eq_eq_eq_not, Bool.not_true, Bool.not_false, Bool.and_eq_true, Bool.or_eq_true, Bool.or_eq_false_iff, beq_iff_eq, beq_eq_false_iff_ne, ne_eq, Int.not_lt, Int.not_le, Decidable.not_not] at hc41); first | omega | (simp_all; done) | (simp_all; omega) | (revert hc41; simp; omega)
            · try simp only [decide_eq_true_eq, decide_eq_false_iff_not, Bool.not_eq_true', Bool.not_eq_false', Bool.not_eq_eq_eq_not, Bool.not_true, Bool.not_false, Bool.and_eq_true, Bool.or_eq_true, Bool.or_eq_false_iff, beq_iff_eq, beq_eq_false_iff_ne, ne_eq, Int.not_lt, Int.not_le, Decidable.not_not] at hc41
              refine g_skip ?_
              refine g_next hK4 ?_
              refine g_seq (fun K6 hK6 => ?_)
              refine g_cond rfl (fun h => by cases h) (fun _ => ?_)
              refine g_skip ?_
              refine g_next hK6 ?_
              refine g_seq (fun K7 hK7 => ?_)
              refine g_region ?_
              refine g_step rfl (s_lit ty36 ty9 rfl rfl rfl rfl rfl rfl rfl ?_)
              refine g_step rfl (s_val (v_assign rfl) rfl rfl ?_)
              refine g_nil ?_
              refine g_next hK7 ?_
              refine g_seq (fun K8 hK8 => ?_)
              refine g_region ?_
              refine g_step rfl (s_val (v_assign rfl) rfl rfl ?_)
              refine g_nil ?_
              refine g_next hK8 ?_
              refine g_seq (fun K9 hK9 => ?_)
              refine g_seq (fun K10 hK10 => ?_)
              refine g_region ?_
              refine g_step rfl (s_val (v_assign rfl) rfl rfl ?_)
              refine g_nil ?_
              refine g_next hK10 ?_
              refine g_block ?_
              first | refine g_keep [0, 2, 7, 8, 9] [] [] (keep_cons rfl (keep_cons rfl (keep_cons rfl (keep_cons rfl (keep_cons rfl keep_nil))))) lkeep_nil keep_nil rfl ?_ | refine g_keep [0, 2, 7, 8, 9] [] [] rfl rfl rfl rfl ?_
              refine g_loop (fun n env L B G => ∃ (k : Nat) (u : Int), k ≤ 10 ∧ n = 10 - k ∧ env = [(0, .int .i64 kd), (2, .str s), (7, .imm (kNames.map .str)), (8, .int .i64 u), (9, .int .i64 (k : Int))] ∧ L = [] ∧ B = [] ∧ H = G ∧ lastI (kNames.drop k) (k : Int) s u = kOf s) (10 - 1) ⟨1, 0, (by decide), rfl, rfl, rfl, rfl, rfl, kLast s⟩ (fun n env L B G hI => ?_)
              obtain ⟨k, u, hk, rfl, rfl, rfl, rfl, rfl, hc⟩ := hI
              refine g_seq (fun K11 hK11 => ?_)
              refine g_seq (fun K12 hK12 => ?_)
              refine g_region ?_
              refine g_step rfl (s_val (v_move rfl) rfl rfl ?_)
              refine g_step rfl (s_val (v_lss rfl rfl) rfl rfl ?_)
              refine g_nil ?_
              refine g_next hK12 ?_
              refine g_cond rfl (fun hc44 => ?_) (fun hc44 => ?_)
              · try simp only [decide_eq_true_eq, decide_eq_false_iff_not, Bool.not_eq_true', Bool.not_eq_false', Bool.not_eq_eq_eq_not, Bool.not_true, Bool.not_false, Bool.and_eq_true, Bool.or_eq_true, Bool.or_eq_false_iff, beq_iff_eq, beq_eq_false_iff_ne, ne_eq, Int.not_lt, Int.not_le, Decidable.not_not] at hc44
                obtain ⟨x, hx⟩ := get_some (l := kNames) (k := k) (by show k < 10; omega)
                refine g_skip ?_
                refine g_next hK11 ?_
                refine g_seq (fun K13 hK13 => ?_)
                refine g_block ?_
                refine g_seq (fun K14 hK14 => ?_)
                refine g_region ?_
                refine g_step rfl (s_val (v_move rfl) rfl rfl ?_)
                refine g_step rfl (s_val (v_move rfl) rfl rfl ?_)
                refine g_step rfl (s_val (v_indexAddr ty36 ty9 rfl rfl (by first | rfl | assumption) (by first | rfl | exact (rfl : (0 : Int) = ((0 : Nat) : Int)) | exact (Int.toNat_of_nonneg (by omega)).symm) (by first | assumption | exact map_get (by assumption) | rfl) rfl) rfl rfl ?_)
                refine g_step rfl (s_val (by first | exact v_load ty9 rfl rfl (by first | rfl | assumption) (by first | assumption | exact map_get (by assumption) | rfl) rfl | exact v_load_box ty9 rfl rfl (by assumption) rfl) rfl rfl ?_)
                refine g_step rfl (s_val (v_move rfl) rfl rfl ?_)
                refine g_step rfl (s_val (v_seq rfl rfl) rfl rfl ?_)
                refine g_nil ?_
                refine g_next hK14 ?_
                refine g_cond rfl (fun hc52 => ?_) (fun hc52 => ?_)
                · try simp only [decide_eq_true_eq, decide_eq_false_iff_not, Bool.not_eq_true', Bool.not_eq_false', Bool.not_eq_eq_eq_not, Bool.not_true, Bool.not_false, Bool.and_eq_true, Bool.or_eq_true, Bool.or_eq_false_iff, beq_iff_eq, beq_eq_false_iff_ne, ne_eq, Int.not_lt, Int.not_le, Decidable.not_not] at hc52
                  refine g_region ?_
                  refine g_step rfl (s_val (v_move rfl) rfl rfl ?_)
                  refine g_step rfl (s_val (v_assign rfl) rfl rfl ?_)
                  refine g_nil ?_
                  refine g_block_normal ?_
                  refine g_next hK13 ?_
                  refine g_region ?_
                  refine g_step rfl (s_val (v_move rfl) rfl rfl ?_)
                  refine g_step rfl (s_val (v_add rfl rfl (by omega)) rfl rfl ?_)
                  refine g_step rfl (s_val (v_assign rfl) rfl rfl ?_)
                  refine g_nil ?_
                  first | refine g_keep [0, 2, 7, 8, 9] [] [] (keep_cons rfl (keep_cons rfl (keep_cons rfl (keep_cons rfl (keep_cons rfl keep_nil))))) lkeep_nil keep_nil rfl ?_ | refine g_keep [0, 2, 7, 8, 9] [] [] rfl rfl rfl rfl ?_
                  exact g_round _ (by omega) ⟨k + 1, _, by omega, rfl, rfl, rfl, rfl, rfl, by rw [drop_cons hx, lastI] at hc; first | (rw [if_pos hc52] at hc; exact hc) | (rw [if_neg hc52] at hc; exact hc)⟩
                · try simp only [decide_eq_true_eq, decide_eq_false_iff_not, Bool.not_eq_true', Bool.not_eq_false', Bool.not_eq_eq_eq_not, Bool.not_true, Bool.not_false, Bool.and_eq_true, Bool.or_eq_true, Bool.or_eq_false_iff, beq_iff_eq, beq_eq_false_iff_ne, ne_eq, Int.not_lt, Int.not_le, Decidable.not_not] at hc52
                  refine g_skip ?_
                  refine g_block_normal ?_
                  refine g_next hK13 ?_
                  refine g_region ?_
                  refine g_step rfl (s_val (v_move rfl) rfl rfl ?_)
                  refine g_step rfl (s_val (v_add rfl rfl (by omega)) rfl rfl ?_)
                  refine g_step rfl (s_val (v_assign rfl) rfl rfl ?_)
                  refine g_nil ?_
                  first | refine g_keep [0, 2, 7, 8, 9] [] [] (keep_cons rfl (keep_cons rfl (keep_cons rfl (keep_cons rfl (keep_cons rfl keep_nil))))) lkeep_nil keep_nil rfl ?_ | refine g_keep [0, 2, 7, 8, 9] [] [] rfl rfl rfl rfl ?_
                  exact g_round _ (by omega) ⟨k + 1, _, by omega, rfl, rfl, rfl, rfl, rfl, by rw [drop_cons hx, lastI] at hc; first | (rw [if_pos hc52] at hc; exact hc) | (rw [if_neg hc52] at hc; exact hc)⟩
              · try simp only [decide_eq_true_eq, decide_eq_false_iff_not, Bool.not_eq_true', Bool.not_eq_false', Bool.not_eq_eq_eq_not, Bool.not_true, Bool.not_false, Bool.and_eq_true, Bool.or_eq_true, Bool.or_eq_false_iff, beq_iff_eq, beq_eq_false_iff_ne, ne_eq, Int.not_lt, Int.not_le, Decidable.not_not] at hc44
                obtain rfl : k = 10 := by omega
                obtain rfl : u = kOf s := hc
                refine g_exit ?_
                refine g_then_exit ?_
                refine g_then_exit ?_
                refine g_block_same ?_
                refine g_next hK9 ?_
                refine g_seq (fun K15 hK15 => ?_)
                refine g_region ?_
                refine g_step rfl (s_val (v_move rfl) rfl rfl ?_)
                refine g_step rfl (s_callp rfl rfl rfl (mkind_ok s _) ?_)
                rintro _ rfl
                refine g_step rfl (s_val (v_move rfl) rfl rfl ?_)
                refine g_step rfl (s_val (v_extract rfl rfl) rfl rfl ?_)
                refine g_step rfl (s_val (v_extract rfl rfl) rfl rfl ?_)
                refine g_step rfl (s_val (v_assign rfl) rfl rfl ?_)
                refine g_step rfl (s_val (v_assign rfl) rfl rfl ?_)
                refine g_nil ?_
                refine g_next hK15 ?_
                refine g_seq (fun K16 hK16 => ?_)
                refine g_seq (fun K17 hK17 => ?_)
                refine g_region ?_
                refine g_step rfl (s_val (v_move rfl) rfl rfl ?_)
                refine g_step rfl (s_val (v_move rfl) rfl rfl ?_)
                refine g_step rfl (s_val (v_neq rfl rfl) rfl rfl ?_)
                refine g_step rfl (s_val (v_move rfl) rfl rfl ?_)
                refine g_split 62 rfl (fun hg62 => ?_) (fun hg62 => ?_)
                · exfalso; (try simp only [decide_eq_true_eq, decide_eq_false_iff_not, Bool.not_eq_true', Bool.not_eq_false', Bool.not_eq_eq_eq_not, Bool.not_true, Bool.not_false, Bool.and_eq_true, Bool.or_eq_true, Bool.or_eq_false_iff, beq_iff_eq, beq_eq_false_iff_ne, ne_eq, Int.not_lt, Int.not_le, Decidable.not_not] at hg62); first | exact hg62 rfl | (simp at hg62; done) | simp_all
                · try simp only [decide_eq_true_eq, decide_eq_false_iff_not, Bool.not_eq_true', Bool.not_eq_false', Bool.not_eq_eq_eq_not, Bool.not_true, Bool.not_false, Bool.and_eq_true, Bool.or_eq_true, Bool.or_eq_false_iff, beq_iff_eq, beq_eq_false_iff_ne, ne_eq, Int.not_lt, Int.not_le, Decidable.not_not] at hg62
                  refine g_step_yes (j := 3) (t := 62) rfl rfl rfl rfl (s_val (v_move rfl) rfl rfl ?_)
                  refine g_step_yes (j := 3) (t := 62) rfl rfl rfl rfl (s_val (v_move rfl) rfl rfl ?_)
                  refine g_step_yes (j := 3) (t := 62) rfl rfl rfl rfl (s_val (v_gtr rfl rfl) rfl rfl ?_)
                  refine g_step_yes (j := 3) (t := 62) rfl rfl rfl rfl (s_val (v_bool_neq ty4 rfl rfl) rfl rfl ?_)
                  refine g_step rfl (s_val (v_pick_f rfl rfl) rfl rfl ?_)
                  refine g_nil ?_
                  refine g_next hK17 ?_
                  refine g_cond rfl (fun hc67 => ?_) (fun hc67 => ?_)
                  · exfalso; (try simp only [decide_eq_true_eq, decide_eq_false_iff_not, Bool.not_eq_true', Bool.not_eq_false', Bool.not_eq_eq_eq_not, Bool.not_true, Bool.not_false, Bool.and_eq_true, Bool.or_eq_true, Bool.or_eq_false_iff, beq_iff_eq, beq_eq_false_iff_ne, ne_eq, Int.not_lt, Int.not_le, Decidable.not_not] at hc67); first | exact hc67 rfl | exact hc67 | (simp at hc67; done) | (revert hc67; simp; done) | simp_all
                  · try simp only [decide_eq_true_eq, decide_eq_false_iff_not, Bool.not_eq_true', Bool.not_eq_false', Bool.not_eq_eq_eq_not, Bool.not_true, Bool.not_false, Bool.and_eq_true, Bool.or_eq_true, Bool.or_eq_false_iff, beq_iff_eq, beq_eq_false_iff_ne, ne_eq, Int.not_lt, Int.not_le, Decidable.not_not] at hc67
                    refine g_skip ?_
                    refine g_next hK16 ?_
                    refine g_seq (fun K18 hK18 => ?_)
                    refine g_seq (fun K19 hK19 => ?_)
                    refine g_region ?_
                    refine g_step rfl (s_val (v_move rfl) rfl rfl ?_)
                    refine g_step rfl (s_val (v_lss rfl rfl) rfl rfl ?_)
                    refine g_step rfl (s_val (v_move rfl) rfl rfl ?_)
                    refine g_split 70 rfl (fun hg70 => ?_) (fun hg70 => ?_)
                    · try simp only [decide_eq_true_eq, decide_eq_false_iff_not, Bool.not_eq_true', Bool.not_eq_false', Bool.not_eq_eq_eq_not, Bool.not_true, Bool.not_false, Bool.and_eq_true, Bool.or_eq_true, Bool.or_eq_false_iff, beq_iff_eq, beq_eq_false_iff_ne, ne_eq, Int.not_lt, Int.not_le, Decidable.not_not] at hg70
                      refine g_step_no (j := 2) (t := 70) rfl rfl rfl rfl rfl rfl rfl ?_
                      refine g_step_no (j := 2) (t := 70) rfl rfl rfl rfl rfl rfl rfl ?_
                      refine g_step rfl (s_val (v_pick_t rfl rfl) rfl rfl ?_)
                      refine g_nil ?_
                      refine g_next hK19 ?_
                      first | refine g_keep [0, 7, 73] [] [] (keep_cons rfl (keep_cons rfl (keep_cons rfl keep_nil))) lkeep_nil keep_nil rfl ?_ | refine g_keep [0, 7, 73] [] [] rfl rfl rfl rfl ?_
                      refine g_cond rfl (fun _ => ?_) (fun h => by cases h)
                      refine g_seq (fun K20 hK20 => ?_)
                      refine g_region ?_
                      refine g_step rfl (s_val (v_move rfl) rfl rfl ?_)
                      refine g_step rfl (s_callp rfl rfl rfl (mname_ok kd _) ?_)
                      rintro _ rfl
                      refine g_step rfl (s_val (v_seq rfl rfl) rfl rfl ?_)
                      refine g_step rfl (s_val (v_move rfl) rfl rfl ?_)
                      refine g_split 77 rfl (fun hg77 => ?_) (fun hg77 => ?_)
                      · try simp only [decide_eq_true_eq, decide_eq_false_iff_not, Bool.not_eq_true', Bool.not_eq_false', Bool.not_eq_eq_eq_not, Bool.not_true, Bool.not_false, Bool.and_eq_true, Bool.or_eq_true, Bool.or_eq_false_iff, beq_iff_eq, beq_eq_false_iff_ne, ne_eq, Int.not_lt, Int.not_le, Decidable.not_not] at hg77
                        refine g_step_yes (j := 3) (t := 77) rfl rfl rfl rfl (s_callp rfl rfl rfl (awake10_ok _) ?_)
                        rintro _ rfl
                        refine g_step rfl (s_val (v_pick_t rfl rfl) rfl rfl ?_)
                        refine g_step rfl (s_val (v_assign rfl) rfl rfl ?_)
                        refine g_nil ?_
                        refine g_next hK20 ?_
                        refine g_ret ?_
                        refine g_then_ret ?_
                        refine g_end1 (.inl rfl) Try.results4 (.tmp rfl) [] (ASub.refl _) (AHeap.sub_refl _) (fun p hp => by cases hp) ⟨rfl, ?_⟩
                        rfl
                      · exfalso; (try simp only [decide_eq_true_eq, decide_eq_false_iff_not, Bool.not_eq_true', Bool.not_eq_false', Bool.not_eq_eq_eq_not, Bool.not_true, Bool.not_false, Bool.and_eq_true, Bool.or_eq_true, Bool.or_eq_false_iff, beq_iff_eq, beq_eq_false_iff_ne, ne_eq, Int.not_lt, Int.not_le, Decidable.not_not] at hg77); rw [show kName kd = ⟨#[]⟩ from if_pos (by omega)] at hg77; simp at hg77
                    · try simp only [decide_eq_true_eq, decide_eq_false_iff_not, Bool.not_eq_true', Bool.not_eq_false', Bool.not_eq_eq_eq_not, Bool.not_true, Bool.not_false, Bool.and_eq_true, Bool.or_eq_true, Bool.or_eq_false_iff, beq_iff_eq, beq_eq_false_iff_ne, ne_eq, Int.not_lt, Int.not_le, Decidable.not_not] at hg70
                      refine g_step_yes (j := 2) (t := 70) rfl rfl rfl rfl (s_val (v_move rfl) rfl rfl ?_)
                      refine g_step_yes (j := 2) (t := 70) rfl rfl rfl rfl (s_val (v_gtr rfl rfl) rfl rfl ?_)
                      refine g_step rfl (s_val (v_pick_f rfl rfl) rfl rfl ?_)
                      refine g_nil ?_
                      refine g_next hK19 ?_
                      first | refine g_keep [0, 7, 73] [] [] (keep_cons rfl (keep_cons rfl (keep_cons rfl keep_nil))) lkeep_nil keep_nil rfl ?_ | refine g_keep [0, 7, 73] [] [] rfl rfl rfl rfl ?_
                      refine g_cond rfl (fun hc73 => ?_) (fun hc73 => ?_)
                      · try simp only [decide_eq_true_eq, decide_eq_false_iff_not, Bool.not_eq_true', Bool.not_eq_false', Bool.not_eq_eq_eq_not, Bool.not_true, Bool.not_false, Bool.and_eq_true, Bool.or_eq_true, Bool.or_eq_false_iff, beq_iff_eq, beq_eq_false_iff_ne, ne_eq, Int.not_lt, Int.not_le, Decidable.not_not] at hc73
                        refine g_seq (fun K21 hK21 => ?_)
                        refine g_region ?_
                        refine g_step rfl (s_val (v_move rfl) rfl rfl ?_)
                        refine g_step rfl (s_callp rfl rfl rfl (mname_ok kd _) ?_)
                        rintro _ rfl
                        refine g_step rfl (s_val (v_seq rfl rfl) rfl rfl ?_)
                        refine g_step rfl (s_val (v_move rfl) rfl rfl ?_)
                        refine g_split 77 rfl (fun hg77 => ?_) (fun hg77 => ?_)
                        · try simp only [decide_eq_true_eq, decide_eq_false_iff_not, Bool.not_eq_true', Bool.not_eq_false', Bool.not_eq_eq_eq_not, Bool.not_true, Bool.not_false, Bool.and_eq_true, Bool.or_eq_true, Bool.or_eq_false_iff, beq_iff_eq, beq_eq_false_iff_ne, ne_eq, Int.not_lt, Int.not_le, Decidable.not_not] at hg77
                          refine g_step_yes (j := 3) (t := 77) rfl rfl rfl rfl (s_callp rfl rfl rfl (awake10_ok _) ?_)
                          rintro _ rfl
                          refine g_step rfl (s_val (v_pick_t rfl rfl) rfl rfl ?_)
                          refine g_step rfl (s_val (v_assign rfl) rfl rfl ?_)
                          refine g_nil ?_
                          refine g_next hK21 ?_
                          refine g_ret ?_
                          refine g_then_ret ?_
                          refine g_end1 (.inl rfl) Try.results4 (.tmp rfl) [] (ASub.refl _) (AHeap.sub_refl _) (fun p hp => by cases hp) ⟨rfl, ?_⟩
                          rfl
                        · exfalso; (try simp only [decide_eq_true_eq, decide_eq_false_iff_not, Bool.not_eq_true', Bool.not_eq_false', Bool.not_eq_eq_eq_not, Bool.not_true, Bool.not_false, Bool.and_eq_true, Bool.or_eq_true, Bool.or_eq_false_iff, beq_iff_eq, beq_eq_false_iff_ne, ne_eq, Int.not_lt, Int.not_le, Decidable.not_not] at hg77); rw [show kName kd = ⟨#[]⟩ from if_pos (by omega)] at hg77; simp at hg77
                      · try simp only [decide_eq_true_eq, decide_eq_false_iff_not, Bool.not_eq_true', Bool.not_eq_false', Bool.not_eq_eq_eq_not, Bool.not_true, Bool.not_false, Bool.and_eq_true, Bool.or_eq_true, Bool.or_eq_false_iff, beq_iff_eq, beq_eq_false_iff_ne, ne_eq, Int.not_lt, Int.not_le, Decidable.not_not] at hc73
                        refine g_skip ?_
                        refine g_next hK18 ?_
                        refine g_seq (fun K22 hK22 => ?_)
                        refine g_draw (n := 11) (fun j => !([] : List Nat).contains j) rfl rfl ?_
                        refine m_take 0 false rfl rfl (by kernel_rfl) (by kernel_rfl) (by kernel_rfl) (fun _ _ _ _ h => h) (v_move rfl) rfl rfl ?_
                        refine m_take 2 false rfl rfl (by kernel_rfl) (by kernel_rfl) (by kernel_rfl) (fun _ _ _ _ h => h) (v_move rfl) rfl rfl ?_
                        refine m_take 3 false rfl rfl (by kernel_rfl) (by kernel_rfl) (by kernel_rfl) (fun _ _ _ _ h => h) (v_move rfl) rfl rfl ?_
                        refine m_take 4 false rfl rfl (by kernel_rfl) (by kernel_rfl) (by kernel_rfl) (fun _ _ _ _ h => h) (v_indexAddr ty36 ty9 rfl rfl (by first | rfl | assumption) (Int.toNat_of_nonneg (by omega)).symm (map_get (kName_get (k := kd) (by omega))) rfl) rfl rfl ?_
                        refine m_take 5 true rfl rfl (by kernel_rfl) (by kernel_rfl) (by kernel_rfl) (fun _ _ _ _ h => h) (by first | exact v_load ty9 rfl rfl (by first | rfl | assumption) (map_get (kName_get (k := kd) (by omega))) rfl | exact v_load_box ty9 rfl rfl (by assumption) rfl) rfl rfl ?_
                        refine m_one 1 (by kernel_rfl) rfl rfl ?_
                        refine sm_callp rfl rfl rfl (mname_ok kd _) ?_
                        rintro _ rfl
                        refine m_take 6 false rfl rfl (by kernel_rfl) (by kernel_rfl) (by kernel_rfl) (fun _ _ _ _ h => h) (v_seq rfl rfl) rfl rfl ?_
                        refine m_take 7 false rfl rfl (by kernel_rfl) (by kernel_rfl) (by kernel_rfl) (fun _ _ _ _ h => h) (v_move rfl) rfl rfl ?_
                        refine m_split 87 rfl (fun hg87 => ?_) (fun hg87 => ?_)
                        · try simp only [decide_eq_true_eq, decide_eq_false_iff_not, Bool.not_eq_true', Bool.not_eq_false', Bool.not_eq_eq_eq_not, Bool.not_true, Bool.not_false, Bool.and_eq_true, Bool.or_eq_true, Bool.or_eq_false_iff, beq_iff_eq, beq_eq_false_iff_ne, ne_eq, Int.not_lt, Int.not_le, Decidable.not_not] at hg87
                          refine m_one_yes (j := 7) (t := 87) 8 (by kernel_rfl) rfl rfl rfl rfl rfl ?_
                          refine sm_callp rfl rfl rfl (awake10_ok _) ?_
                          rintro _ rfl
                          refine m_take 9 false rfl rfl (by kernel_rfl) (by kernel_rfl) (by kernel_rfl) (fun _ _ _ _ h => h) (v_pick_t rfl rfl) rfl rfl ?_
                          refine m_take 10 false rfl rfl (by kernel_rfl) (by kernel_rfl) (by kernel_rfl) (fun _ _ _ _ h => h) (v_assign rfl) rfl rfl ?_
                          refine m_done (by kernel_rfl) ?_
                          refine g_next hK22 ?_
                          refine g_ret ?_
                          refine g_end1 (.inl rfl) Try.results4 (.tmp rfl) [] (ASub.refl _) (AHeap.sub_refl _) (fun p hp => by cases hp) ⟨rfl, ?_⟩
                          rfl
                        · exfalso; (try simp only [decide_eq_true_eq, decide_eq_false_iff_not, Bool.not_eq_true', Bool.not_eq_false', Bool.not_eq_eq_eq_not, Bool.not_true, Bool.not_false, Bool.and_eq_true, Bool.or_eq_true, Bool.or_eq_false_iff, beq_iff_eq, beq_eq_false_iff_ne, ne_eq, Int.not_lt, Int.not_le, Decidable.not_not] at hg87); first | exact hg87 rfl | exact hg87 | simp_all
          · try simp only [decide_eq_true_eq, decide_eq_false_iff_not, Bool.not_eq_true', Bool.not_eq_false', Bool.not_eq_eq_eq_not, Bool.not_true, Bool.not_false, Bool.and_eq_true, Bool.or_eq_true, Bool.or_eq_false_iff, beq_iff_eq, beq_eq_false_iff_ne, ne_eq, Int.not_lt, Int.not_le, Decidable.not_not] at hg36
            refine g_step_no (j := 20) (t := 36) rfl rfl rfl rfl rfl rfl rfl ?_
            refine g_step_no (j := 20) (t := 36) rfl rfl rfl rfl rfl rfl rfl ?_
            refine g_step_yes (j := 15) (t := 31) rfl rfl rfl rfl (s_val (v_pick_f rfl rfl) rfl rfl ?_)
            refine g_step_yes (j := 15) (t := 31) rfl rfl rfl rfl (s_val (v_bool_neq ty4 rfl rfl) rfl rfl ?_)
            refine g_step rfl (s_val (v_pick_f rfl rfl) rfl rfl ?_)
            refine g_nil ?_
            refine g_next hK5 ?_
            first | refine g_keep [0, 2, 41] [] [] (keep_cons rfl (keep_cons rfl (keep_cons rfl keep_nil))) lkeep_nil keep_nil rfl ?_ | refine g_keep [0, 2, 41] [] [] rfl rfl rfl rfl ?_
            refine g_cond rfl (fun hc41 => ?_) (fun hc41 => ?_)
            · exfalso; (try simp only [decide_eq_true_eq, decide_eq_false_iff_not, Bool.not_eq_true', Bool.not_eq_false', Bool.not_eq_eq_eq_not, Bool.not_true, Bool.not_false, Bool.and_eq_true, Bool.or_eq_true, Bool.or_eq_false_iff, beq_iff_eq, beq_eq_false_iff_ne, ne_eq, Int.not_lt, Int.not_le, Decidable.not_not] at hc41); first | omega | (simp_all; done) | (simp_all; omega) | (revert hc41; simp; omega)
            · try simp only [decide_eq_true_eq, decide_eq_false_iff_not, Bool.not_eq_true', Bool.not_eq_false', Bool.not_eq_eq_eq_not, Bool.not_true, Bool.not_false, Bool.and_eq_true, Bool.or_eq_true, Bool.or_eq_false_iff, beq_iff_eq, beq_eq_false_iff_ne, ne_eq, Int.not_lt, Int.not_le, Decidable.not_not] at hc41
              refine g_skip ?_
              refine g_next hK4 ?_
              refine g_seq (fun K23 hK23 => ?_)
              refine g_cond rfl (fun h => by cases h) (fun _ => ?_)
              refine g_skip ?_
              refine g_next hK23 ?_
              refine g_seq (fun K24 hK24 => ?_)
              refine g_region ?_
              refine g_step rfl (s_lit ty36 ty9 rfl rfl rfl rfl rfl rfl rfl ?_)
              refine g_step rfl (s_val (v_assign rfl) rfl rfl ?_)
              refine g_nil ?_
              refine g_next hK24 ?_
              refine g_seq (fun K25 hK25 => ?_)
              refine g_region ?_
              refine g_step rfl (s_val (v_assign rfl) rfl rfl ?_)
              refine g_nil ?_
              refine g_next hK25 ?_
              refine g_seq (fun K26 hK26 => ?_)
              refine g_seq (fun K27 hK27 => ?_)
              refine g_region ?_
              refine g_step rfl (s_val (v_assign rfl) rfl rfl ?_)
              refine g_nil ?_
              refine g_next hK27 ?_
              refine g_block ?_
              first | refine g_keep [0, 2, 7, 8, 9] [] [] (keep_cons rfl (keep_cons rfl (keep_cons rfl (keep_cons rfl (keep_cons rfl keep_nil))))) lkeep_nil keep_nil rfl ?_ | refine g_keep [0, 2, 7, 8, 9] [] [] rfl rfl rfl rfl ?_
              refine g_loop (fun n env L B G => ∃ (k : Nat) (u : Int), k ≤ 10 ∧ n = 10 - k ∧ env = [(0, .int .i64 kd), (2, .str s), (7, .imm (kNames.map .str)), (8, .int .i64 u), (9, .int .i64 (k : Int))] ∧ L = [] ∧ B = [] ∧ H = G ∧ lastI (kNames.drop k) (k : Int) s u = kOf s) (10 - 1) ⟨1, 0, (by decide), rfl, rfl, rfl, rfl, rfl, kLast s⟩ (fun n env L B G hI => ?_)
              obtain ⟨k, u, hk, rfl, rfl, rfl, rfl, rfl, hc⟩ := hI
              refine g_seq (fun K28 hK28 => ?_)
              refine g_seq (fun K29 hK29 => ?_)
              refine g_region ?_
              refine g_step rfl (s_val (v_move rfl) rfl rfl ?_)
              refine g_step rfl (s_val (v_lss rfl rfl) rfl rfl ?_)
              refine g_nil ?_
              refine g_next hK29 ?_
              refine g_cond rfl (fun hc44 => ?_) (fun hc44 => ?_)
              · try simp only [decide_eq_true_eq, decide_eq_false_iff_not, Bool.not_eq_true', Bool.not_eq_false', Bool.not_eq_eq_eq_not, Bool.not_true, Bool.not_false, Bool.and_eq_true, Bool.or_eq_true, Bool.or_eq_false_iff, beq_iff_eq, beq_eq_false_iff_ne, ne_eq, Int.not_lt, Int.not_le, Decidable.not_not] at hc44
                obtain ⟨x, hx⟩ := get_some (l := kNames) (k := k) (by show k < 10; omega)
                refine g_skip ?_
                refine g_next hK28 ?_
                refine g_seq (fun K30 hK30 => ?_)
                refine g_block ?_
                refine g_seq (fun K31 hK31 => ?_)
                refine g_region ?_
                refine g_step rfl (s_val (v_move rfl) rfl rfl ?_)
                refine g_step rfl (s_val (v_move rfl) rfl rfl ?_)
                refine g_step rfl (s_val (v_indexAddr ty36 ty9 rfl rfl (by first | rfl | assumption) (by first | rfl | exact (rfl : (0 : Int) = ((0 : Nat) : Int)) | exact (Int.toNat_of_nonneg (by omega)).symm) (by first | assumption | exact map_get (by assumption) | rfl) rfl) rfl rfl ?_)
                refine g_step rfl (s_val (by first | exact v_load ty9 rfl rfl (by first | rfl | assumption) (by first | assumption | exact map_get (by assumption) | rfl) rfl | exact v_load_box ty9 rfl rfl (by assumption) rfl) rfl rfl ?_)
                refine g_step rfl (s_val (v_move rfl) rfl rfl ?_)
                refine g_step rfl (s_val (v_seq rfl rfl) rfl rfl ?_)
                refine g_nil ?_
                refine g_next hK31 ?_
                refine g_cond rfl (fun hc52 => ?_) (fun hc52 => ?_)
                · try simp only [decide_eq_true_eq, decide_eq_false_iff_not, Bool.not_eq_true', Bool.not_eq_false', Bool.not_eq_eq_eq_not, Bool.not_true, Bool.not_false, Bool.and_eq_true, Bool.or_eq_true, Bool.or_eq_false_iff, beq_iff_eq, beq_eq_false_iff_ne, ne_eq, Int.not_lt, Int.not_le, Decidable.not_not] at hc52
                  refine g_region ?_
                  refine g_step rfl (s_val (v_move rfl) rfl rfl ?_)
                  refine g_step rfl (s_val (v_assign rfl) rfl rfl ?_)
                  refine g_nil ?_
                  refine g_block_normal ?_
                  refine g_next hK30 ?_
                  refine g_region ?_
                  refine g_step rfl (s_val (v_move rfl) rfl rfl ?_)
                  refine g_step rfl (s_val (v_add rfl rfl (by omega)) rfl rfl ?_)
                  refine g_step rfl (s_val (v_assign rfl) rfl rfl ?_)
                  refine g_nil ?_
                  first | refine g_keep [0, 2, 7, 8, 9] [] [] (keep_cons rfl (keep_cons rfl (keep_cons rfl (keep_cons rfl (keep_cons rfl keep_nil))))) lkeep_nil keep_nil rfl ?_ | refine g_keep [0, 2, 7, 8, 9] [] [] rfl rfl rfl rfl ?_
                  exact g_round _ (by omega) ⟨k + 1, _, by omega, rfl, rfl, rfl, rfl, rfl, by rw [drop_cons hx, lastI] at hc; first | (rw [if_pos hc52] at hc; exact hc) | (rw [if_neg hc52] at hc; exact hc)⟩
                · try simp only [decide_eq_true_eq, decide_eq_false_iff_not, Bool.not_eq_true', Bool.not_eq_false', Bool.not_eq_eq_eq_not, Bool.not_true, Bool.not_false, Bool.and_eq_true, Bool.or_eq_true, Bool.or_eq_false_iff, beq_iff_eq, beq_eq_false_iff_ne, ne_eq, Int.not_lt, Int.not_le, Decidable.not_not] at hc52
                  refine g_skip ?_
                  refine g_block_normal ?_
                  refine g_next hK30 ?_
                  refine g_region ?_
                  refine g_step rfl (s_val (v_move rfl) rfl rfl ?_)
                  refine g_step rfl (s_val (v_add rfl rfl (by omega)) rfl rfl ?_)
                  refine g_step rfl (s_val (v_assign rfl) rfl rfl ?_)
                  refine g_nil ?_
                  first | refine g_keep [0, 2, 7, 8, 9] [] [] (keep_cons rfl (keep_cons rfl (keep_cons rfl (keep_cons rfl (keep_cons rfl keep_nil))))) lkeep_nil keep_nil rfl ?_ | refine g_keep [0, 2, 7, 8, 9] [] [] rfl rfl rfl rfl ?_
                  exact g_round _ (by omega) ⟨k + 1, _, by omega, rfl, rfl, rfl, rfl, rfl, by rw [drop_cons hx, lastI] at hc; first | (rw [if_pos hc52] at hc; exact hc) | (rw [if_neg hc52] at hc; exact hc)⟩
              · try simp only [decide_eq_true_eq, decide_eq_false_iff_not, Bool.not_eq_true', Bool.not_eq_false', Bool.not_eq_eq_eq_not, Bool.not_true, Bool.not_false, Bool.and_eq_true, Bool.or_eq_true, Bool.or_eq_false_iff, beq_iff_eq, beq_eq_false_iff_ne, ne_eq, Int.not_lt, Int.not_le, Decidable.not_not] at hc44
                obtain rfl : k = 10 := by omega
                obtain rfl : u = kOf s := hc
                refine g_exit ?_
                refine g_then_exit ?_
                refine g_then_exit ?_
                refine g_block_same ?_
                refine g_next hK26 ?_
                refine g_seq (fun K32 hK32 => ?_)
                refine g_region ?_
                refine g_step rfl (s_val (v_move rfl) rfl rfl ?_)
                refine g_step rfl (s_callp rfl rfl rfl (mkind_ok s _) ?_)
                rintro _ rfl
                refine g_step rfl (s_val (v_move rfl) rfl rfl ?_)
                refine g_step rfl (s_val (v_extract rfl rfl) rfl rfl ?_)
                refine g_step rfl (s_val (v_extract rfl rfl) rfl rfl ?_)
                refine g_step rfl (s_val (v_assign rfl) rfl rfl ?_)
                refine g_step rfl (s_val (v_assign rfl) rfl rfl ?_)
                refine g_nil ?_
                refine g_next hK32 ?_
                refine g_seq (fun K33 hK33 => ?_)
                refine g_seq (fun K34 hK34 => ?_)
                refine g_region ?_
                refine g_step rfl (s_val (v_move rfl) rfl rfl ?_)
                refine g_step rfl (s_val (v_move rfl) rfl rfl ?_)
                refine g_step rfl (s_val (v_neq rfl rfl) rfl rfl ?_)
                refine g_step rfl (s_val (v_move rfl) rfl rfl ?_)
                refine g_split 62 rfl (fun hg62 => ?_) (fun hg62 => ?_)
                · exfalso; (try simp only [decide_eq_true_eq, decide_eq_false_iff_not, Bool.not_eq_true', Bool.not_eq_false', Bool.not_eq_eq_eq_not, Bool.not_true, Bool.not_false, Bool.and_eq_true, Bool.or_eq_true, Bool.or_eq_false_iff, beq_iff_eq, beq_eq_false_iff_ne, ne_eq, Int.not_lt, Int.not_le, Decidable.not_not] at hg62); first | exact hg62 rfl | (simp at hg62; done) | simp_all
                · try simp only [decide_eq_true_eq, decide_eq_false_iff_not, Bool.not_eq_true', Bool.not_eq_false', Bool.not_eq_eq_eq_not, Bool.not_true, Bool.not_false, Bool.and_eq_true, Bool.or_eq_true, Bool.or_eq_false_iff, beq_iff_eq, beq_eq_false_iff_ne, ne_eq, Int.not_lt, Int.not_le, Decidable.not_not] at hg62
                  refine g_step_yes (j := 3) (t := 62) rfl rfl rfl rfl (s_val (v_move rfl) rfl rfl ?_)
                  refine g_step_yes (j := 3) (t := 62) rfl rfl rfl rfl (s_val (v_move rfl) rfl rfl ?_)
                  refine g_step_yes (j := 3) (t := 62) rfl rfl rfl rfl (s_val (v_gtr rfl rfl) rfl rfl ?_)
                  refine g_step_yes (j := 3) (t := 62) rfl rfl rfl rfl (s_val (v_bool_neq ty4 rfl rfl) rfl rfl ?_)
                  refine g_step rfl (s_val (v_pick_f rfl rfl) rfl rfl ?_)
                  refine g_nil ?_
                  refine g_next hK34 ?_
                  refine g_cond rfl (fun hc67 => ?_) (fun hc67 => ?_)
                  · exfalso; (try simp only [decide_eq_true_eq, decide_eq_false_iff_not, Bool.not_eq_true', Bool.not_eq_false', Bool.not_eq_eq_eq_not, Bool.not_true, Bool.not_false, Bool.and_eq_true, Bool.or_eq_true, Bool.or_eq_false_iff, beq_iff_eq, beq_eq_false_iff_ne, ne_eq, Int.not_lt, Int.not_le, Decidable.not_not] at hc67); first | exact hc67 rfl | exact hc67 | (simp at hc67; done) | (revert hc67; simp; done) | simp_all
                  · try simp only [decide_eq_true_eq, decide_eq_false_iff_not, Bool.not_eq_true', Bool.not_eq_false', Bool.not_eq_eq_eq_not, Bool.not_true, Bool.not_false, Bool.and_eq_true, Bool.or_eq_true, Bool.or_eq_false_iff, beq_iff_eq, beq_eq_false_iff_ne, ne_eq, Int.not_lt, Int.not_le, Decidable.not_not] at hc67
                    refine g_skip ?_
                    refine g_next hK33 ?_
                    refine g_seq (fun K35 hK35 => ?_)
                    refine g_seq (fun K36 hK36 => ?_)
                    refine g_region ?_
                    refine g_step rfl (s_val (v_move rfl) rfl rfl ?_)
                    refine g_step rfl (s_val (v_lss rfl rfl) rfl rfl ?_)
                    refine g_step rfl (s_val (v_move rfl) rfl rfl ?_)
                    refine g_split 70 rfl (fun hg70 => ?_) (fun hg70 => ?_)
                    · try simp only [decide_eq_true_eq, decide_eq_false_iff_not, Bool.not_eq_true', Bool.not_eq_false', Bool.not_eq_eq_eq_not, Bool.not_true, Bool.not_false, Bool.and_eq_true, Bool.or_eq_true, Bool.or_eq_false_iff, beq_iff_eq, beq_eq_false_iff_ne, ne_eq, Int.not_lt, Int.not_le, Decidable.not_not] at hg70
                      refine g_step_no (j := 2) (t := 70) rfl rfl rfl rfl rfl rfl rfl ?_
                      refine g_step_no (j := 2) (t := 70) rfl rfl rfl rfl rfl rfl rfl ?_
                      refine g_step rfl (s_val (v_pick_t rfl rfl) rfl rfl ?_)
                      refine g_nil ?_
                      refine g_next hK36 ?_
                      first | refine g_keep [0, 7, 73] [] [] (keep_cons rfl (keep_cons rfl (keep_cons rfl keep_nil))) lkeep_nil keep_nil rfl ?_ | refine g_keep [0, 7, 73] [] [] rfl rfl rfl rfl ?_
                      refine g_cond rfl (fun _ => ?_) (fun h => by cases h)
                      refine g_seq (fun K37 hK37 => ?_)
                      refine g_region ?_
                      refine g_step rfl (s_val (v_move rfl) rfl rfl ?_)
                      refine g_step rfl (s_callp rfl rfl rfl (mname_ok kd _) ?_)
                      rintro _ rfl
                      refine g_step rfl (s_val (v_seq rfl rfl) rfl rfl ?_)
                      refine g_step rfl (s_val (v_move rfl) rfl rfl ?_)
                      refine g_split 77 rfl (fun hg77 => ?_) (fun hg77 => ?_)
                      · try simp only [decide_eq_true_eq, decide_eq_false_iff_not, Bool.not_eq_true', Bool.not_eq_false', Bool.not_eq_eq_eq_not, Bool.not_true, Bool.not_false, Bool.and_eq_true, Bool.or_eq_true, Bool.or_eq_false_iff, beq_iff_eq, beq_eq_false_iff_ne, ne_eq, Int.not_lt, Int.not_le, Decidable.not_not] at hg77
                        refine g_step_yes (j := 3) (t := 77) rfl rfl rfl rfl (s_callp rfl rfl rfl (awake10_ok _) ?_)
                        rintro _ rfl
                        refine g_step rfl (s_val (v_pick_t rfl rfl) rfl rfl ?_)
                        refine g_step rfl (s_val (v_assign rfl) rfl rfl ?_)
                        refine g_nil ?_
                        refine g_next hK37 ?_
                        refine g_ret ?_
                        refine g_then_ret ?_
                        refine g_end1 (.inl rfl) Try.results4 (.tmp rfl) [] (ASub.refl _) (AHeap.sub_refl _) (fun p hp => by cases hp) ⟨rfl, ?_⟩
                        rfl
                      · exfalso; (try simp only [decide_eq_true_eq, decide_eq_false_iff_not, Bool.not_eq_true', Bool.not_eq_false', Bool.not_eq_eq_eq_not, Bool.not_true, Bool.not_false, Bool.and_eq_true, Bool.or_eq_true, Bool.or_eq_false_iff, beq_iff_eq, beq_eq_false_iff_ne, ne_eq, Int.not_lt, Int.not_le, Decidable.not_not] at hg77); rw [show kName kd = ⟨#[]⟩ from if_pos (by omega)] at hg77; simp at hg77
                    · try simp only [decide_eq_true_eq, decide_eq_false_iff_not, Bool.not_eq_true', Bool.not_eq_false', Bool.not_eq_eq_eq_not, Bool.not_true, Bool.not_false, Bool.and_eq_true, Bool.or_eq_true, Bool.or_eq_false_iff, beq_iff_eq, beq_eq_false_iff_ne, ne_eq, Int.not_lt, Int.not_le, Decidable.not_not] at hg70
                      refine g_step_yes (j := 2) (t := 70) rfl rfl rfl rfl (s_val (v_move rfl) rfl rfl ?_)
                      refine g_step_yes (j := 2) (t := 70) rfl rfl rfl rfl (s_val (v_gtr rfl rfl) rfl rfl ?_)
                      refine g_step rfl (s_val (v_pick_f rfl rfl) rfl rfl ?_)
                      refine g_nil ?_
                      refine g_next hK36 ?_
                      first | refine g_keep [0, 7, 73] [] [] (keep_cons rfl (keep_cons rfl (keep_cons rfl keep_nil))) lkeep_nil keep_nil rfl ?_ | refine g_keep [0, 7, 73] [] [] rfl rfl rfl rfl ?_
                      refine g_cond rfl (fun hc73 => ?_) (fun hc73 => ?_)
                      · try simp only [decide_eq_true_eq, decide_eq_false_iff_not, Bool.not_eq_true', Bool.not_eq_false', Bool.not_eq_eq_eq_not, Bool.not_true, Bool.not_false, Bool.and_eq_true, Bool.or_eq_true, Bool.or_eq_false_iff, beq_iff_eq, beq_eq_false_iff_ne, ne_eq, Int.not_lt, Int.not_le, Decidable.not_not] at hc73
                        refine g_seq (fun K38 hK38 => ?_)
                        refine g_region ?_
                        refine g_step rfl (s_val (v_move rfl) rfl rfl ?_)
                        refine g_step rfl (s_callp rfl rfl rfl (mname_ok kd _) ?_)
                        rintro _ rfl
                        refine g_step rfl (s_val (v_seq rfl rfl) rfl rfl ?_)
                        refine g_step rfl (s_val (v_move rfl) rfl rfl ?_)
                        refine g_split 77 rfl (fun hg77 => ?_) (fun hg77 => ?_)
                        · try simp only [decide_eq_true_eq, decide_eq_false_iff_not, Bool.not_eq_true', Bool.not_eq_false', Bool.not_eq_eq_eq_not, Bool.not_true, Bool.not_false, Bool.and_eq_true, Bool.or_eq_true, Bool.or_eq_false_iff, beq_iff_eq, beq_eq_false_iff_ne, ne_eq, Int.not_lt, Int.not_le, Decidable.not_not] at hg77
                          refine g_step_yes (j := 3) (t := 77) rfl rfl rfl rfl (s_callp rfl rfl rfl (awake10_ok _) ?_)
                          rintro _ rfl
                          refine g_step rfl (s_val (v_pick_t rfl rfl) rfl rfl ?_)
                          refine g_step rfl (s_val (v_assign rfl) rfl rfl ?_)
                          refine g_nil ?_
                          refine g_next hK38 ?_
                          refine g_ret ?_
                          refine g_then_ret ?_
                          refine g_end1 (.inl rfl) Try.results4 (.tmp rfl) [] (ASub.refl _) (AHeap.sub_refl _) (fun p hp => by cases hp) ⟨rfl, ?_⟩
                          rfl
                        · exfalso; (try simp only [decide_eq_true_eq, decide_eq_false_iff_not, Bool.not_eq_true', Bool.not_eq_false', Bool.not_eq_eq_eq_not, Bool.not_true, Bool.not_false, Bool.and_eq_true, Bool.or_eq_true, Bool.or_eq_false_iff, beq_iff_eq, beq_eq_false_iff_ne, ne_eq, Int.not_lt, Int.not_le, Decidable.not_not] at hg77); rw [show kName kd = ⟨#[]⟩ from if_pos (by omega)] at hg77; simp at hg77
                      · try simp only [decide_eq_true_eq, decide_eq_false_iff_not, Bool.not_eq_true', Bool.not_eq_false', Bool.not_eq_eq_eq_not, Bool.not_true, Bool.not_false, Bool.and_eq_true, Bool.or_eq_true, Bool.or_eq_false_iff, beq_iff_eq, beq_eq_false_iff_ne, ne_eq, Int.not_lt, Int.not_le, Decidable.not_not] at hc73
                        refine g_skip ?_
                        refine g_next hK35 ?_
                        refine g_seq (fun K39 hK39 => ?_)
                        refine g_draw (n := 11) (fun j => !([] : List Nat).contains j) rfl rfl ?_
                        refine m_take 0 false rfl rfl (by kernel_rfl) (by kernel_rfl) (by kernel_rfl) (fun _ _ _ _ h => h) (v_move rfl) rfl rfl ?_
                        refine m_take 2 false rfl rfl (by kernel_rfl) (by kernel_rfl) (by kernel_rfl) (fun _ _ _ _ h => h) (v_move rfl) rfl rfl ?_
                        refine m_take 3 false rfl rfl (by kernel_rfl) (by kernel_rfl) (by kernel_rfl) (fun _ _ _ _ h => h) (v_move rfl) rfl rfl ?_
                        refine m_take 4 false rfl rfl (by kernel_rfl) (by kernel_rfl) (by kernel_rfl) (fun _ _ _ _ h => h) (v_indexAddr ty36 ty9 rfl rfl (by first | rfl | assumption) (Int.toNat_of_nonneg (by omega)).symm (map_get (kName_get (k := kd) (by omega))) rfl) rfl rfl ?_
                        refine m_take 5 true rfl rfl (by kernel_rfl) (by kernel_rfl) (by kernel_rfl) (fun _ _ _ _ h => h) (by first | exact v_load ty9 rfl rfl (by first | rfl | assumption) (map_get (kName_get (k := kd) (by omega))) rfl | exact v_load_box ty9 rfl rfl (by assumption) rfl) rfl rfl ?_
                        refine m_one 1 (by kernel_rfl) rfl rfl ?_
                        refine sm_callp rfl rfl rfl (mname_ok kd _) ?_
                        rintro _ rfl
                        refine m_take 6 false rfl rfl (by kernel_rfl) (by kernel_rfl) (by kernel_rfl) (fun _ _ _ _ h => h) (v_seq rfl rfl) rfl rfl ?_
                        refine m_take 7 false rfl rfl (by kernel_rfl) (by kernel_rfl) (by kernel_rfl) (fun _ _ _ _ h => h) (v_move rfl) rfl rfl ?_
                        refine m_split 87 rfl (fun hg87 => ?_) (fun hg87 => ?_)
                        · try simp only [decide_eq_true_eq, decide_eq_false_iff_not, Bool.not_eq_true', Bool.not_eq_false', Bool.not_eq_eq_eq_not, Bool.not_true, Bool.not_false, Bool.and_eq_true, Bool.or_eq_true, Bool.or_eq_false_iff, beq_iff_eq, beq_eq_false_iff_ne, ne_eq, Int.not_lt, Int.not_le, Decidable.not_not] at hg87
                          refine m_one_yes (j := 7) (t := 87) 8 (by kernel_rfl) rfl rfl rfl rfl rfl ?_
                          refine sm_callp rfl rfl rfl (awake10_ok _) ?_
                          rintro _ rfl
                          refine m_take 9 false rfl rfl (by kernel_rfl) (by kernel_rfl) (by kernel_rfl) (fun _ _ _ _ h => h) (v_pick_t rfl rfl) rfl rfl ?_
                          refine m_take 10 false rfl rfl (by kernel_rfl) (by kernel_rfl) (by kernel_rfl) (fun _ _ _ _ h => h) (v_assign rfl) rfl rfl ?_
                          refine m_done (by kernel_rfl) ?_
                          refine g_next hK39 ?_
                          refine g_ret ?_
                          refine g_end1 (.inl rfl) Try.results4 (.tmp rfl) [] (ASub.refl _) (AHeap.sub_refl _) (fun p hp => by cases hp) ⟨rfl, ?_⟩
                          rfl
                        · exfalso; (try simp only [decide_eq_true_eq, decide_eq_false_iff_not, Bool.not_eq_true', Bool.not_eq_false', Bool.not_eq_eq_eq_not, Bool.not_true, Bool.not_false, Bool.and_eq_true, Bool.or_eq_true, Bool.or_eq_false_iff, beq_iff_eq, beq_eq_false_iff_ne, ne_eq, Int.not_lt, Int.not_le, Decidable.not_not] at hg87); first | exact hg87 rfl | exact hg87 | simp_all
      · try simp only [decide_eq_true_eq, decide_eq_false_iff_not, Bool.not_eq_true', Bool.not_eq_false', Bool.not_eq_eq_eq_not, Bool.not_true, Bool.not_false, Bool.and_eq_true, Bool.or_eq_true, Bool.or_eq_false_iff, beq_iff_eq, beq_eq_false_iff_ne, ne_eq, Int.not_lt, Int.not_le, Decidable.not_not] at hg25
        refine g_step_no (j := 9) (t := 25) rfl rfl rfl rfl rfl rfl rfl ?_
        refine g_step_no (j := 9) (t := 25) rfl rfl rfl rfl rfl rfl rfl ?_
        refine g_step_no (j := 9) (t := 25) rfl rfl rfl rfl rfl rfl rfl ?_
        refine g_step rfl (s_val (v_pick_f rfl rfl) rfl rfl ?_)
        refine g_step rfl (s_val (v_bool_neq ty4 rfl rfl) rfl rfl ?_)
        refine g_step rfl (s_val (v_move rfl) rfl rfl ?_)
        refine g_split 31 rfl (fun hg31 => ?_) (fun hg31 => ?_)
        · exfalso; (try simp only [decide_eq_true_eq, decide_eq_false_iff_not, Bool.not_eq_true', Bool.not_eq_false', Bool.not_eq_eq_eq_not, Bool.not_true, Bool.not_false, Bool.and_eq_true, Bool.or_eq_true, Bool.or_eq_false_iff, beq_iff_eq, beq_eq_false_iff_ne, ne_eq, Int.not_lt, Int.not_le, Decidable.not_not] at hg31); first | (have h1 := @has10_in kd p; simp_all; omega) | (simp_all; done) | (have h1 := @has10_in kd p; revert hg31; cases has10 kd p <;> simp_all <;> omega)
        · try simp only [decide_eq_true_eq, decide_eq_false_iff_not, Bool.not_eq_true', Bool.not_eq_false', Bool.not_eq_eq_eq_not, Bool.not_true, Bool.not_false, Bool.and_eq_true, Bool.or_eq_true, Bool.or_eq_false_iff, beq_iff_eq, beq_eq_false_iff_ne, ne_eq, Int.not_lt, Int.not_le, Decidable.not_not] at hg31
          refine g_step_yes (j := 15) (t := 31) rfl rfl rfl rfl (s_val (v_move rfl) rfl rfl ?_)
          refine g_step_yes (j := 15) (t := 31) rfl rfl rfl rfl (s_callp rfl rfl rfl (greets_ok kd _) ?_)
          rintro _ rfl
          refine g_step_yes (j := 15) (t := 31) rfl rfl rfl rfl (s_val (v_move rfl) rfl rfl ?_)
          refine g_step_yes (j := 15) (t := 31) rfl rfl rfl rfl (s_val (v_geq rfl rfl) rfl rfl ?_)
          refine g_step_yes (j := 15) (t := 31) rfl rfl rfl rfl (s_val (v_move rfl) rfl rfl ?_)
          refine g_split 36 rfl (fun hg36 => ?_) (fun hg36 => ?_)
          · try simp only [decide_eq_true_eq, decide_eq_false_iff_not, Bool.not_eq_true', Bool.not_eq_false', Bool.not_eq_eq_eq_not, Bool.not_true, Bool.not_false, Bool.and_eq_true, Bool.or_eq_true, Bool.or_eq_false_iff, beq_iff_eq, beq_eq_false_iff_ne, ne_eq, Int.not_lt, Int.not_le, Decidable.not_not] at hg36
            refine g_step_yes (j := 20) (t := 36) rfl rfl rfl rfl (s_val (v_move rfl) rfl rfl ?_)
            refine g_step_yes (j := 20) (t := 36) rfl rfl rfl rfl (s_val (v_leq rfl rfl) rfl rfl ?_)
            refine g_step_yes (j := 15) (t := 31) rfl rfl rfl rfl (s_val (v_pick_t rfl rfl) rfl rfl ?_)
            refine g_step_yes (j := 15) (t := 31) rfl rfl rfl rfl (s_val (v_bool_neq ty4 rfl rfl) rfl rfl ?_)
            refine g_step rfl (s_val (v_pick_f rfl rfl) rfl rfl ?_)
            refine g_nil ?_
            refine g_next hK5 ?_
            first | refine g_keep [0, 2, 41] [] [] (keep_cons rfl (keep_cons rfl (keep_cons rfl keep_nil))) lkeep_nil keep_nil rfl ?_ | refine g_keep [0, 2, 41] [] [] rfl rfl rfl rfl ?_
            refine g_cond rfl (fun hc41 => ?_) (fun hc41 => ?_)
            · exfalso; (try simp only [decide_eq_true_eq, decide_eq_false_iff_not, Bool.not_eq_true', Bool.not_eq_false', Bool.not_eq_eq_eq_not, Bool.not_true, Bool.not_false, Bool.and_eq_true, Bool.or_eq_true, Bool.or_eq_false_iff, beq_iff_eq, beq_eq_false_iff_ne, ne_eq, Int.not_lt, Int.not_le, Decidable.not_not] at hc41); first | omega | (simp_all; done) | (simp_all; omega) | (revert hc41; simp; omega)
            · try simp only [decide_eq_true_eq, decide_eq_false_iff_not, Bool.not_eq_true', Bool.not_eq_false', Bool.not_eq_eq_eq_not, Bool.not_true, Bool.not_false, Bool.and_eq_true, Bool.or_eq_true, Bool.or_eq_false_iff, beq_iff_eq, beq_eq_false_iff_ne, ne_eq, Int.not_lt, Int.not_le, Decidable.not_not] at hc41
              refine g_skip ?_
              refine g_next hK4 ?_
              refine g_seq (fun K40 hK40 => ?_)
              refine g_cond rfl (fun h => by cases h) (fun _ => ?_)
              refine g_skip ?_
              refine g_next hK40 ?_
              refine g_seq (fun K41 hK41 => ?_)
              refine g_region ?_
              refine g_step rfl (s_lit ty36 ty9 rfl rfl rfl rfl rfl rfl rfl ?_)
              refine g_step rfl (s_val (v_assign rfl) rfl rfl ?_)
              refine g_nil ?_
              refine g_next hK41 ?_
              refine g_seq (fun K42 hK42 => ?_)
              refine g_region ?_
              refine g_step rfl (s_val (v_assign rfl) rfl rfl ?_)
              refine g_nil ?_
              refine g_next hK42 ?_
              refine g_seq (fun K43 hK43 => ?_)
              refine g_seq (fun K44 hK44 => ?_)
              refine g_region ?_
              refine g_step rfl (s_val (v_assign rfl) rfl rfl ?_)
              refine g_nil ?_
              refine g_next hK44 ?_
              refine g_block ?_
              first | refine g_keep [0, 2, 7, 8, 9] [] [] (keep_cons rfl (keep_cons rfl (keep_cons rfl (keep_cons rfl (keep_cons rfl keep_nil))))) lkeep_nil keep_nil rfl ?_ | refine g_keep [0, 2, 7, 8, 9] [] [] rfl rfl rfl rfl ?_
              refine g_loop (fun n env L B G => ∃ (k : Nat) (u : Int), k ≤ 10 ∧ n = 10 - k ∧ env = [(0, .int .i64 kd), (2, .str s), (7, .imm (kNames.map .str)), (8, .int .i64 u), (9, .int .i64 (k : Int))] ∧ L = [] ∧ B = [] ∧ H = G ∧ lastI (kNames.drop k) (k : Int) s u = kOf s) (10 - 1) ⟨1, 0, (by decide), rfl, rfl, rfl, rfl, rfl, kLast s⟩ (fun n env L B G hI => ?_)
              obtain ⟨k, u, hk, rfl, rfl, rfl, rfl, rfl, hc⟩ := hI
              refine g_seq (fun K45 hK45 => ?_)
              refine g_seq (fun K46 hK46 => ?_)
              refine g_region ?_
              refine g_step rfl (s_val (v_move rfl) rfl rfl ?_)
              refine g_step rfl (s_val (v_lss rfl rfl) rfl rfl ?_)
              refine g_nil ?_
              refine g_next hK46 ?_
              refine g_cond rfl (fun hc44 => ?_) (fun hc44 => ?_)
              · try simp only [decide_eq_true_eq, decide_eq_false_iff_not, Bool.not_eq_true', Bool.not_eq_false', Bool.not_eq_eq_eq_not, Bool.not_true, Bool.not_false, Bool.and_eq_true, Bool.or_eq_true, Bool.or_eq_false_iff, beq_iff_eq, beq_eq_false_iff_ne, ne_eq, Int.not_lt, Int.not_le, Decidable.not_not] at hc44
                obtain ⟨x, hx⟩ := get_some (l := kNames) (k := k) (by show k < 10; omega)
                refine g_skip ?_
                refine g_next hK45 ?_
                refine g_seq (fun K47 hK47 => ?_)
                refine g_block ?_
                refine g_seq (fun K48 hK48 => ?_)
                refine g_region ?_
                refine g_step rfl (s_val (v_move rfl) rfl rfl ?_)
                refine g_step rfl (s_val (v_move rfl) rfl rfl ?_)
                refine g_step rfl (s_val (v_indexAddr ty36 ty9 rfl rfl (by first | rfl | assumption) (by first | rfl | exact (rfl : (0 : Int) = ((0 : Nat) : Int)) | exact (Int.toNat_of_nonneg (by omega)).symm) (by first | assumption | exact map_get (by assumption) | rfl) rfl) rfl rfl ?_)
                refine g_step rfl (s_val (by first | exact v_load ty9 rfl rfl (by first | rfl | assumption) (by first | assumption | exact map_get (by assumption) | rfl) rfl | exact v_load_box ty9 rfl rfl (by assumption) rfl) rfl rfl ?_)
                refine g_step rfl (s_val (v_move rfl) rfl rfl ?_)
                refine g_step rfl (s_val (v_seq rfl rfl) rfl rfl ?_)
                refine g_nil ?_
                refine g_next hK48 ?_
                refine g_cond rfl (fun hc52 => ?_) (fun hc52 => ?_)
                · try simp only [decide_eq_true_eq, decide_eq_false_iff_not, Bool.not_eq_true', Bool.not_eq_false', Bool.not_eq_eq_eq_not, Bool.not_true, Bool.not_false, Bool.and_eq_true, Bool.or_eq_true, Bool.or_eq_false_iff, beq_iff_eq, beq_eq_false_iff_ne, ne_eq, Int.not_lt, Int.not_le, Decidable.not_not] at hc52
                  refine g_region ?_
                  refine g_step rfl (s_val (v_move rfl) rfl rfl ?_)
                  refine g_step rfl (s_val (v_assign rfl) rfl rfl ?_)
                  refine g_nil ?_
                  refine g_block_normal ?_
                  refine g_next hK47 ?_
                  refine g_region ?_
                  refine g_step rfl (s_val (v_move rfl) rfl rfl ?_)
                  refine g_step rfl (s_val (v_add rfl rfl (by omega)) rfl rfl ?_)
                  refine g_step rfl (s_val (v_assign rfl) rfl rfl ?_)
                  refine g_nil ?_
                  first | refine g_keep [0, 2, 7, 8, 9] [] [] (keep_cons rfl (keep_cons rfl (keep_cons rfl (keep_cons rfl (keep_cons rfl keep_nil))))) lkeep_nil keep_nil rfl ?_ | refine g_keep [0, 2, 7, 8, 9] [] [] rfl rfl rfl rfl ?_
                  exact g_round _ (by omega) ⟨k + 1, _, by omega, rfl, rfl, rfl, rfl, rfl, by rw [drop_cons hx, lastI] at hc; first | (rw [if_pos hc52] at hc; exact hc) | (rw [if_neg hc52] at hc; exact hc)⟩
                · try simp only [decide_eq_true_eq, decide_eq_false_iff_not, Bool.not_eq_true', Bool.not_eq_false', Bool.not_eq_eq_eq_not, Bool.not_true, Bool.not_false, Bool.and_eq_true, Bool.or_eq_true, Bool.or_eq_false_iff, beq_iff_eq, beq_eq_false_iff_ne, ne_eq, Int.not_lt, Int.not_le, Decidable.not_not] at hc52
                  refine g_skip ?_
                  refine g_block_normal ?_
                  refine g_next hK47 ?_
                  refine g_region ?_
                  refine g_step rfl (s_val (v_move rfl) rfl rfl ?_)
                  refine g_step rfl (s_val (v_add rfl rfl (by omega)) rfl rfl ?_)
                  refine g_step rfl (s_val (v_assign rfl) rfl rfl ?_)
                  refine g_nil ?_
                  first | refine g_keep [0, 2, 7, 8, 9] [] [] (keep_cons rfl (keep_cons rfl (keep_cons rfl (keep_cons rfl (keep_cons rfl keep_nil))))) lkeep_nil keep_nil rfl ?_ | refine g_keep [0, 2, 7, 8, 9] [] [] rfl rfl rfl rfl ?_
                  exact g_round _ (by omega) ⟨k + 1, _, by omega, rfl, rfl, rfl, rfl, rfl, by rw [drop_cons hx, lastI] at hc; first | (rw [if_pos hc52] at hc; exact hc) | (rw [if_neg hc52] at hc; exact hc)⟩
              · try simp only [decide_eq_true_eq, decide_eq_false_iff_not, Bool.not_eq_true', Bool.not_eq_false', Bool.not_eq_eq_eq_not, Bool.not_true, Bool.not_false, Bool.and_eq_true, Bool.or_eq_true, Bool.or_eq_false_iff, beq_iff_eq, beq_eq_false_iff_ne, ne_eq, Int.not_lt, Int.not_le, Decidable.not_not] at hc44
                obtain rfl : k = 10 := by omega
                obtain rfl : u = kOf s := hc
                refine g_exit ?_
                refine g_then_exit ?_
                refine g_then_exit ?_
                refine g_block_same ?_
                refine g_next hK43 ?_
                refine g_seq (fun K49 hK49 => ?_)
                refine g_region ?_
                refine g_step rfl (s_val (v_move rfl) rfl rfl ?_)
                refine g_step rfl (s_callp rfl rfl rfl (mkind_ok s _) ?_)
                rintro _ rfl
                refine g_step rfl (s_val (v_move rfl) rfl rfl ?_)
                refine g_step rfl (s_val (v_extract rfl rfl) rfl rfl ?_)
                refine g_step rfl (s_val (v_extract rfl rfl) rfl rfl ?_)
                refine g_step rfl (s_val (v_assign rfl) rfl rfl ?_)
                refine g_step rfl (s_val (v_assign rfl) rfl rfl ?_)
                refine g_nil ?_
                refine g_next hK49 ?_
                refine g_seq (fun K50 hK50 => ?_)
                refine g_seq (fun K51 hK51 => ?_)
                refine g_region ?_
                refine g_step rfl (s_val (v_move rfl) rfl rfl ?_)
                refine g_step rfl (s_val (v_move rfl) rfl rfl ?_)
                refine g_step rfl (s_val (v_neq rfl rfl) rfl rfl ?_)
                refine g_step rfl (s_val (v_move rfl) rfl rfl ?_)
                refine g_split 62 rfl (fun hg62 => ?_) (fun hg62 => ?_)
                · exfalso; (try simp only [decide_eq_true_eq, decide_eq_false_iff_not, Bool.not_eq_true', Bool.not_eq_false', Bool.not_eq_eq_eq_not, Bool.not_true, Bool.not_false, Bool.and_eq_true, Bool.or_eq_true, Bool.or_eq_false_iff, beq_iff_eq, beq_eq_false_iff_ne, ne_eq, Int.not_lt, Int.not_le, Decidable.not_not] at hg62); first | exact hg62 rfl | (simp at hg62; done) | simp_all
                · try simp only [decide_eq_true_eq, decide_eq_false_iff_not, Bool.not_eq_true', Bool.not_eq_false', Bool.not_eq_eq_eq_not, Bool.not_true, Bool.not_false, Bool.and_eq_true, Bool.or_eq_true, Bool.or_eq_false_iff, beq_iff_eq, beq_eq_false_iff_ne, ne_eq, Int.not_lt, Int.not_le, Decidable.not_not] at hg62
                  refine g_step_yes (j := 3) (t := 62) rfl rfl rfl rfl (s_val (v_move rfl) rfl rfl ?_)
                  refine g_step_yes (j := 3) (t := 62) rfl rfl rfl rfl (s_val (v_move rfl) rfl rfl ?_)
                  refine g_step_yes (j := 3) (t := 62) rfl rfl rfl rfl (s_val (v_gtr rfl rfl) rfl rfl ?_)
                  refine g_step_yes (j := 3) (t := 62) rfl rfl rfl rfl (s_val (v_bool_neq ty4 rfl rfl) rfl rfl ?_)
                  refine g_step rfl (s_val (v_pick_f rfl rfl) rfl rfl ?_)
                  refine g_nil ?_
                  refine g_next hK51 ?_
                  refine g_cond rfl (fun hc67 => ?_) (fun hc67 => ?_)
                  · exfalso; (try simp only [decide_eq_true_eq, decide_eq_false_iff_not, Bool.not_eq_true', Bool.not_eq_false', Bool.not_eq_eq_eq_not, Bool.not_true, Bool.not_false, Bool.and_eq_true, Bool.or_eq_true, Bool.or_eq_false_iff, beq_iff_eq, beq_eq_false_iff_ne, ne_eq, Int.not_lt, Int.not_le, Decidable.not_not] at hc67); first | exact hc67 rfl | exact hc67 | (simp at hc67; done) | (revert hc67; simp; done) | simp_all
                  · try simp only [decide_eq_true_eq, decide_eq_false_iff_not, Bool.not_eq_true', Bool.not_eq_false', Bool.not_eq_eq_eq_not, Bool.not_true, Bool.not_false, Bool.and_eq_true, Bool.or_eq_true, Bool.or_eq_false_iff, beq_iff_eq, beq_eq_false_iff_ne, ne_eq, Int.not_lt, Int.not_le, Decidable.not_not] at hc67
                    refine g_skip ?_
                    refine g_next hK50 ?_
                    refine g_seq (fun K52 hK52 => ?_)
                    refine g_seq (fun K53 hK53 => ?_)
                    refine g_region ?_
                    refine g_step rfl (s_val (v_move rfl) rfl rfl ?_)
                    refine g_step rfl (s_val (v_lss rfl rfl) rfl rfl ?_)
                    refine g_step rfl (s_val (v_move rfl) rfl rfl ?_)
                    refine g_split 70 rfl (fun hg70 => ?_) (fun hg70 => ?_)
                    · try simp only [decide_eq_true_eq, decide_eq_false_iff_not, Bool.not_eq_true', Bool.not_eq_false', Bool.not_eq_eq_eq_not, Bool.not_true, Bool.not_false, Bool.and_eq_true, Bool.or_eq_true, Bool.or_eq_false_iff, beq_iff_eq, beq_eq_false_iff_ne, ne_eq, Int.not_lt, Int.not_le, Decidable.not_not] at hg70
                      refine g_step_no (j := 2) (t := 70) rfl rfl rfl rfl rfl rfl rfl ?_
                      refine g_step_no (j := 2) (t := 70) rfl rfl rfl rfl rfl rfl rfl ?_
                      refine g_step rfl (s_val (v_pick_t rfl rfl) rfl rfl ?_)
                      refine g_nil ?_
                      refine g_next hK53 ?_
                      first | refine g_keep [0, 7, 73] [] [] (keep_cons rfl (keep_cons rfl (keep_cons rfl keep_nil))) lkeep_nil keep_nil rfl ?_ | refine g_keep [0, 7, 73] [] [] rfl rfl rfl rfl ?_
                      refine g_cond rfl (fun _ => ?_) (fun h => by cases h)
                      refine g_seq (fun K54 hK54 => ?_)
                      refine g_region ?_
                      refine g_step rfl (s_val (v_move rfl) rfl rfl ?_)
                      refine g_step rfl (s_callp rfl rfl rfl (mname_ok kd _) ?_)
                      rintro _ rfl
                      refine g_step rfl (s_val (v_seq rfl rfl) rfl rfl ?_)
                      refine g_step rfl (s_val (v_move rfl) rfl rfl ?_)
                      refine g_split 77 rfl (fun hg77 => ?_) (fun hg77 => ?_)
                      · try simp only [decide_eq_true_eq, decide_eq_false_iff_not, Bool.not_eq_true', Bool.not_eq_false', Bool.not_eq_eq_eq_not, Bool.not_true, Bool.not_false, Bool.and_eq_true, Bool.or_eq_true, Bool.or_eq_false_iff, beq_iff_eq, beq_eq_false_iff_ne, ne_eq, Int.not_lt, Int.not_le, Decidable.not_not] at hg77
                        refine g_step_yes (j := 3) (t := 77) rfl rfl rfl rfl (s_callp rfl rfl rfl (awake10_ok _) ?_)
                        rintro _ rfl
                        refine g_step rfl (s_val (v_pick_t rfl rfl) rfl rfl ?_)
                        refine g_step rfl (s_val (v_assign rfl) rfl rfl ?_)
                        refine g_nil ?_
                        refine g_next hK54 ?_
                        refine g_ret ?_
                        refine g_then_ret ?_
                        refine g_end1 (.inl rfl) Try.results4 (.tmp rfl) [] (ASub.refl _) (AHeap.sub_refl _) (fun p hp => by cases hp) ⟨rfl, ?_⟩
                        rfl
                      · exfalso; (try simp only [decide_eq_true_eq, decide_eq_false_iff_not, Bool.not_eq_true', Bool.not_eq_false', Bool.not_eq_eq_eq_not, Bool.not_true, Bool.not_false, Bool.and_eq_true, Bool.or_eq_true, Bool.or_eq_false_iff, beq_iff_eq, beq_eq_false_iff_ne, ne_eq, Int.not_lt, Int.not_le, Decidable.not_not] at hg77); rw [show kName kd = ⟨#[]⟩ from if_pos (by omega)] at hg77; simp at hg77
                    · try simp only [decide_eq_true_eq, decide_eq_false_iff_not, Bool.not_eq_true', Bool.not_eq_false', Bool.not_eq_eq_eq_not, Bool.not_true, Bool.not_false, Bool.and_eq_true, Bool.or_eq_true, Bool.or_eq_false_iff, beq_iff_eq, beq_eq_false_iff_ne, ne_eq, Int.not_lt, Int.not_le, Decidable.not_not] at hg70
                      refine g_step_yes (j := 2) (t := 70) rfl rfl rfl rfl (s_val (v_move rfl) rfl rfl ?_)
                      refine g_step_yes (j := 2) (t := 70) rfl rfl rfl rfl (s_val (v_gtr rfl rfl) rfl rfl ?_)
                      refine g_step rfl (s_val (v_pick_f rfl rfl) rfl rfl ?_)
                      refine g_nil ?_
                      refine g_next hK53 ?_
                      first | refine g_keep [0, 7, 73] [] [] (keep_cons rfl (keep_cons rfl (keep_cons rfl keep_nil))) lkeep_nil keep_nil rfl ?_ | refine g_keep [0, 7, 73] [] [] rfl rfl rfl rfl ?_
                      refine g_cond rfl (fun hc73 => ?_) (fun hc73 => ?_)
                      · try simp only [decide_eq_true_eq, decide_eq_false_iff_not, Bool.not_eq_true', Bool.not_eq_false', Bool.not_eq_eq_eq_not, Bool.not_true, Bool.not_false, Bool.and_eq_true, Bool.or_eq_true, Bool.or_eq_false_iff, beq_iff_eq, beq_eq_false_iff_ne, ne_eq, Int.not_lt, Int.not_le, Decidable.not_not] at hc73
                        refine g_seq (fun K55 hK55 => ?_)
                        refine g_region ?_
                        refine g_step rfl (s_val (v_move rfl) rfl rfl ?_)
                        refine g_step rfl (s_callp rfl rfl rfl (mname_ok kd _) ?_)
                        rintro _ rfl
                        refine g_step rfl (s_val (v_seq rfl rfl) rfl rfl ?_)
                        refine g_step rfl (s_val (v_move rfl) rfl rfl ?_)
                        refine g_split 77 rfl (fun hg77 => ?_) (fun hg77 => ?_)
                        · try simp only [decide_eq_true_eq, decide_eq_false_iff_not, Bool.not_eq_true', Bool.not_eq_false', Bool.not_eq_eq_eq_not, Bool.not_true, Bool.not_false, Bool.and_eq_true, Bool.or_eq_true, Bool.or_eq_false_iff, beq_iff_eq, beq_eq_false_iff_ne, ne_eq, Int.not_lt, Int.not_le, Decidable.not_not] at hg77
                          refine g_step_yes (j := 3) (t := 77) rfl rfl rfl rfl (s_callp rfl rfl rfl (awake10_ok _) ?_)
                          rintro _ rfl
                          refine g_step rfl (s_val (v_pick_t rfl rfl) rfl rfl ?_)
                          refine g_step rfl (s_val (v_assign rfl) rfl rfl ?_)
                          refine g_nil ?_
                          refine g_next hK55 ?_
                          refine g_ret ?_
                          refine g_then_ret ?_
                          refine g_end1 (.inl rfl) Try.results4 (.tmp rfl) [] (ASub.refl _) (AHeap.sub_refl _) (fun p hp => by cases hp) ⟨rfl, ?_⟩
                          rfl
                        · exfalso; (try simp only [decide_eq_true_eq, decide_eq_false_iff_not, Bool.not_eq_true', Bool.not_eq_false', Bool.not_eq_eq_eq_not, Bool.not_true, Bool.not_false, Bool.and_eq_true, Bool.or_eq_true, Bool.or_eq_false_iff, beq_iff_eq, beq_eq_false_iff_ne, ne_eq, Int.not_lt, Int.not_le, Decidable.not_not] at hg77); rw [show kName kd = ⟨#[]⟩ from if_pos (by omega)] at hg77; simp at hg77
                      · try simp only [decide_eq_true_eq, decide_eq_false_iff_not, Bool.not_eq_true', Bool.not_eq_false', Bool.not_eq_eq_eq_not, Bool.not_true, Bool.not_false, Bool.and_eq_true, Bool.or_eq_true, Bool.or_eq_false_iff, beq_iff_eq, beq_eq_false_iff_ne, ne_eq, Int.not_lt, Int.not_le, Decidable.not_not] at hc73
                        refine g_skip ?_
                        refine g_next hK52 ?_
                        refine g_seq (fun K56 hK56 => ?_)
                        refine g_draw (n := 11) (fun j => !([] : List Nat).contains j) rfl rfl ?_
                        refine m_take 0 false rfl rfl (by kernel_rfl) (by kernel_rfl) (by kernel_rfl) (fun _ _ _ _ h => h) (v_move rfl) rfl rfl ?_
                        refine m_take 2 false rfl rfl (by kernel_rfl) (by kernel_rfl) (by kernel_rfl) (fun _ _ _ _ h => h) (v_move rfl) rfl rfl ?_
                        refine m_take 3 false rfl rfl (by kernel_rfl) (by kernel_rfl) (by kernel_rfl) (fun _ _ _ _ h => h) (v_move rfl) rfl rfl ?_
                        refine m_take 4 false rfl rfl (by kernel_rfl) (by kernel_rfl) (by kernel_rfl) (fun _ _ _ _ h => h) (v_indexAddr ty36 ty9 rfl rfl (by first | rfl | assumption) (Int.toNat_of_nonneg (by omega)).symm (map_get (kName_get (k := kd) (by omega))) rfl) rfl rfl ?_
                        refine m_take 5 true rfl rfl (by kernel_rfl) (by kernel_rfl) (by kernel_rfl) (fun _ _ _ _ h => h) (by first | exact v_load ty9 rfl rfl (by first | rfl | assumption) (map_get (kName_get (k := kd) (by omega))) rfl | exact v_load_box ty9 rfl rfl (by assumption) rfl) rfl rfl ?_
                        refine m_one 1 (by kernel_rfl) rfl rfl ?_
                        refine sm_callp rfl rfl rfl (mname_ok kd _) ?_
                        rintro _ rfl
                        refine m_take 6 false rfl rfl (by kernel_rfl) (by kernel_rfl) (by kernel_rfl) (fun _ _ _ _ h => h) (v_seq rfl rfl) rfl rfl ?_
                        refine m_take 7 false rfl rfl (by kernel_rfl) (by kernel_rfl) (by kernel_rfl) (fun _ _ _ _ h => h) (v_move rfl) rfl rfl ?_
                        refine m_split 87 rfl (fun hg87 => ?_) (fun hg87 => ?_)
                        · try simp only [decide_eq_true_eq, decide_eq_false_iff_not, Bool.not_eq_true', Bool.not_eq_false', Bool.not_eq_eq_eq_not, Bool.not_true, Bool.not_false, Bool.and_eq_true, Bool.or_eq_true, Bool.or_eq_false_iff, beq_iff_eq, beq_eq_false_iff_ne, ne_eq, Int.not_lt, Int.not_le, Decidable.not_not] at hg87
                          refine m_one_yes (j := 7) (t := 87) 8 (by kernel_rfl) rfl rfl rfl rfl rfl ?_
                          refine sm_callp rfl rfl rfl (awake10_ok _) ?_
                          rintro _ rfl
                          refine m_take 9 false rfl rfl (by kernel_rfl) (by kernel_rfl) (by kernel_rfl) (fun _ _ _ _ h => h) (v_pick_t rfl rfl) rfl rfl ?_
                          refine m_take 10 false rfl rfl (by kernel_rfl) (by kernel_rfl) (by kernel_rfl) (fun _ _ _ _ h => h) (v_assign rfl) rfl rfl ?_
                          refine m_done (by kernel_rfl) ?_
                          refine g_next hK56 ?_
                          refine g_ret ?_
                          refine g_end1 (.inl rfl) Try.results4 (.tmp rfl) [] (ASub.refl _) (AHeap.sub_refl _) (fun p hp => by cases hp) ⟨rfl, ?_⟩
                          rfl
                        · exfalso; (try simp only [decide_eq_true_eq, decide_eq_false_iff_not, Bool.not_eq_true', Bool.not_eq_false', Bool.not_eq_eq_eq_not, Bool.not_true, Bool.not_false, Bool.and_eq_true, Bool.or_eq_true, Bool.or_eq_false_iff, beq_iff_eq, beq_eq_false_iff_ne, ne_eq, Int.not_lt, Int.not_le, Decidable.not_not] at hg87); first | exact hg87 rfl | exact hg87 | simp_all
          · try simp only [decide_eq_true_eq, decide_eq_false_iff_not, Bool.not_eq_true', Bool.not_eq_false', Bool.not_eq_eq_eq_not, Bool.not_true, Bool.not_false, Bool.and_eq_true, Bool.or_eq_true, Bool.or_eq_false_iff, beq_iff_eq, beq_eq_false_iff_ne, ne_eq, Int.not_lt, Int.not_le, Decidable.not_not] at hg36
            refine g_step_no (j := 20) (t := 36) rfl rfl rfl rfl rfl rfl rfl ?_
            refine g_step_no (j := 20) (t := 36) rfl rfl rfl rfl rfl rfl rfl ?_
            refine g_step_yes (j := 15) (t := 31) rfl rfl rfl rfl (s_val (v_pick_f rfl rfl) rfl rfl ?_)
            refine g_step_yes (j := 15) (t := 31) rfl rfl rfl rfl (s_val (v_bool_neq ty4 rfl rfl) rfl rfl ?_)
            refine g_step rfl (s_val (v_pick_f rfl rfl) rfl rfl ?_)
            refine g_nil ?_
            refine g_next hK5 ?_
            first | refine g_keep [0, 2, 41] [] [] (keep_cons rfl (keep_cons rfl (keep_cons rfl keep_nil))) lkeep_nil keep_nil rfl ?_ | refine g_keep [0, 2, 41] [] [] rfl rfl rfl rfl ?_
            refine g_cond rfl (fun hc41 => ?_) (fun hc41 => ?_)
            · exfalso; (try simp only [decide_eq_true_eq, decide_eq_false_iff_not, Bool.not_eq_true', Bool.not_eq_false', Bool.not_eq_eq_eq_not, Bool.not_true, Bool.not_false, Bool.and_eq_true, Bool.or_eq_true, Bool.or_eq_false_iff, beq_iff_eq, beq_eq_false_iff_ne, ne_eq, Int.not_lt, Int.not_le, Decidable.not_not] at hc41); first | omega | (simp_all; done) | (simp_all; omega) | (revert hc41; simp; omega)
            · try simp only [decide_eq_true_eq, decide_eq_false_iff_not, Bool.not_eq_true', Bool.not_eq_false', Bool.not_eq_eq_eq_not, Bool.not_true, Bool.not_false, Bool.and_eq_true, Bool.or_eq_true, Bool.or_eq_false_iff, beq_iff_eq, beq_eq_false_iff_ne, ne_eq, Int.not_lt, Int.not_le, Decidable.not_not] at hc41
              refine g_skip ?_
              refine g_next hK4 ?_
              refine g_seq (fun K57 hK57 => ?_)
              refine g_cond rfl (fun h => by cases h) (fun _ => ?_)
              refine g_skip ?_
              refine g_next hK57 ?_
              refine g_seq (fun K58 hK58 => ?_)
              refine g_region ?_
              refine g_step rfl (s_lit ty36 ty9 rfl rfl rfl rfl rfl rfl rfl ?_)
              refine g_step rfl (s_val (v_assign rfl) rfl rfl ?_)
              refine g_nil ?_
              refine g_next hK58 ?_
              refine g_seq (fun K59 hK59 => ?_)
              refine g_region ?_
              refine g_step rfl (s_val (v_assign rfl) rfl rfl ?_)
              refine g_nil ?_
              refine g_next hK59 ?_
              refine g_seq (fun K60 hK60 => ?_)
              refine g_seq (fun K61 hK61 => ?_)
              refine g_region ?_
              refine g_step rfl (s_val (v_assign rfl) rfl rfl ?_)
              refine g_nil ?_
              refine g_next hK61 ?_
              refine g_block ?_
              first | refine g_keep [0, 2, 7, 8, 9] [] [] (keep_cons rfl (keep_cons rfl (keep_cons rfl (keep_cons rfl (keep_cons rfl keep_nil))))) lkeep_nil keep_nil rfl ?_ | refine g_keep [0, 2, 7, 8, 9] [] [] rfl rfl rfl rfl ?_
              refine g_loop (fun n env L B G => ∃ (k : Nat) (u : Int), k ≤ 10 ∧ n = 10 - k ∧ env = [(0, .int .i64 kd), (2, .str s), (7, .imm (kNames.map .str)), (8, .int .i64 u), (9, .int .i64 (k : Int))] ∧ L = [] ∧ B = [] ∧ H = G ∧ lastI (kNames.drop k) (k : Int) s u = kOf s) (10 - 1) ⟨1, 0, (by decide), rfl, rfl, rfl, rfl, rfl, kLast s⟩ (fun n env L B G hI => ?_)
              obtain ⟨k, u, hk, rfl, rfl, rfl, rfl, rfl, hc⟩ := hI
              refine g_seq (fun K62 hK62 => ?_)
              refine g_seq (fun K63 hK63 => ?_)
              refine g_region ?_
              refine g_step rfl (s_val (v_move rfl) rfl rfl ?_)
              refine g_step rfl (s_val (v_lss rfl rfl) rfl rfl ?_)
              refine g_nil ?_
              refine g_next hK63 ?_
              refine g_cond rfl (fun hc44 => ?_) (fun hc44 => ?_)
              · try simp only [decide_eq_true_eq, decide_eq_false_iff_not, Bool.not_eq_true', Bool.not_eq_false', Bool.not_eq_eq_eq_not, Bool.not_true, Bool.not_false, Bool.and_eq_true, Bool.or_eq_true, Bool.or_eq_false_iff, beq_iff_eq, beq_eq_false_iff_ne, ne_eq, Int.not_lt, Int.not_le, Decidable.not_not] at hc44
                obtain ⟨x, hx⟩ := get_some (l := kNames) (k := k) (by show k < 10; omega)
                refine g_skip ?_
                refine g_next hK62 ?_
                refine g_seq (fun K64 hK64 => ?_)
                refine g_block ?_
                refine g_seq (fun K65 hK65 => ?_)
                refine g_region ?_
                refine g_step rfl (s_val (v_move rfl) rfl rfl ?_)
                refine g_step rfl (s_val (v_move rfl) rfl rfl ?_)
                refine g_step rfl (s_val (v_indexAddr ty36 ty9 rfl rfl (by first | rfl | assumption) (by first | rfl | exact (rfl : (0 : Int) = ((0 : Nat) : Int)) | exact (Int.toNat_of_nonneg (by omega)).symm) (by first | assumption | exact map_get (by assumption) | rfl) rfl) rfl rfl ?_)
                refine g_step rfl (s_val (by first | exact v_load ty9 rfl rfl (by first | rfl | assumption) (by first | assumption | exact map_get (by assumption) | rfl) rfl | exact v_load_box ty9 rfl rfl (by assumption) rfl) rfl rfl ?_)
                refine g_step rfl (s_val (v_move rfl) rfl rfl ?_)
                refine g_step rfl (s_val (v_seq rfl rfl) rfl rfl ?_)
                refine g_nil ?_
                refine g_next hK65 ?_
                refine g_cond rfl (fun hc52 => ?_) (fun hc52 => ?_)
                · try simp only [decide_eq_true_eq, decide_eq_false_iff_not, Bool.not_eq_true', Bool.not_eq_false', Bool.not_eq_eq_eq_not, Bool.not_true, Bool.not_false, Bool.and_eq_true, Bool.or_eq_true, Bool.or_eq_false_iff, beq_iff_eq, beq_eq_false_iff_ne, ne_eq, Int.not_lt, Int.not_le, Decidable.not_not] at hc52
                  refine g_region ?_
                  refine g_step rfl (s_val (v_move rfl) rfl rfl ?_)
                  refine g_step rfl (s_val (v_assign rfl) rfl rfl ?_)
                  refine g_nil ?_
                  refine g_block_normal ?_
                  refine g_next hK64 ?_
                  refine g_region ?_
                  refine g_step rfl (s_val (v_move rfl) rfl rfl ?_)
                  refine g_step rfl (s_val (v_add rfl rfl (by omega)) rfl rfl ?_)
                  refine g_step rfl (s_val (v_assign rfl) rfl rfl ?_)
                  refine g_nil ?_
                  first | refine g_keep [0, 2, 7, 8, 9] [] [] (keep_cons rfl (keep_cons rfl (keep_cons rfl (keep_cons rfl (keep_cons rfl keep_nil))))) lkeep_nil keep_nil rfl ?_ | refine g_keep [0, 2, 7, 8, 9] [] [] rfl rfl rfl rfl ?_
                  exact g_round _ (by omega) ⟨k + 1, _, by omega, rfl, rfl, rfl, rfl, rfl, by rw [drop_cons hx, lastI] at hc; first | (rw [if_pos hc52] at hc; exact hc) | (rw [if_neg hc52] at hc; exact hc)⟩
                · try simp only [decide_eq_true_eq, decide_eq_false_iff_not, Bool.not_eq_true', Bool.not_eq_false', Bool.not_eq_eq_eq_not, Bool.not_true, Bool.not_false, Bool.and_eq_true, Bool.or_eq_true, Bool.or_eq_false_iff, beq_iff_eq, beq_eq_false_iff_ne, ne_eq, Int.not_lt, Int.not_le, Decidable.not_not] at hc52
                  refine g_skip ?_
                  refine g_block_normal ?_
                  refine g_next hK64 ?_
                  refine g_region ?_
                  refine g_step rfl (s_val (v_move rfl) rfl rfl ?_)
                  refine g_step rfl (s_val (v_add rfl rfl (by omega)) rfl rfl ?_)
                  refine g_step rfl (s_val (v_assign rfl) rfl rfl ?_)
                  refine g_nil ?_
                  first | refine g_keep [0, 2, 7, 8, 9] [] [] (keep_cons rfl (keep_cons rfl (keep_cons rfl (keep_cons rfl (keep_cons rfl keep_nil))))) lkeep_nil keep_nil rfl ?_ | refine g_keep [0, 2, 7, 8, 9] [] [] rfl rfl rfl rfl ?_
                  exact g_round _ (by omega) ⟨k + 1, _, by omega, rfl, rfl, rfl, rfl, rfl, by rw [drop_cons hx, lastI] at hc; first | (rw [if_pos hc52] at hc; exact hc) | (rw [if_neg hc52] at hc; exact hc)⟩
              · try simp only [decide_eq_true_eq, decide_eq_false_iff_not, Bool.not_eq_true', Bool.not_eq_false', Bool.not_eq_eq_eq_not, Bool.not_true, Bool.not_false, Bool.and_eq_true, Bool.or_eq_true, Bool.or_eq_false_iff, beq_iff_eq, beq_eq_false_iff_ne, ne_eq, Int.not_lt, Int.not_le, Decidable.not_not] at hc44
                obtain rfl : k = 10 := by omega
                obtain rfl : u = kOf s := hc
                refine g_exit ?_
                refine g_then_exit ?_
                refine g_then_exit ?_
                refine g_block_same ?_
                refine g_next hK60 ?_
                refine g_seq (fun K66 hK66 => ?_)
                refine g_region ?_
                refine g_step rfl (s_val (v_move rfl) rfl rfl ?_)
                refine g_step rfl (s_callp rfl rfl rfl (mkind_ok s _) ?_)
                rintro _ rfl
                refine g_step rfl (s_val (v_move rfl) rfl rfl ?_)
                refine g_step rfl (s_val (v_extract rfl rfl) rfl rfl ?_)
                refine g_step rfl (s_val (v_extract rfl rfl) rfl rfl ?_)
                refine g_step rfl (s_val (v_assign rfl) rfl rfl ?_)
                refine g_step rfl (s_val (v_assign rfl) rfl rfl ?_)
                refine g_nil ?_
                refine g_next hK66 ?_
                refine g_seq (fun K67 hK67 => ?_)
                refine g_seq (fun K68 hK68 => ?_)
                refine g_region ?_
                refine g_step rfl (s_val (v_move rfl) rfl rfl ?_)
                refine g_step rfl (s_val (v_move rfl) rfl rfl ?_)
                refine g_step rfl (s_val (v_neq rfl rfl) rfl rfl ?_)
                refine g_step rfl (s_val (v_move rfl) rfl rfl ?_)
                refine g_split 62 rfl (fun hg62 => ?_) (fun hg62 => ?_)
                · exfalso; (try simp only [decide_eq_true_eq, decide_eq_false_iff_not, Bool.not_eq_true', Bool.not_eq_false', Bool.not_eq_eq_eq_not, Bool.not_true, Bool.not_false, Bool.and_eq_true, Bool.or_eq_true, Bool.or_eq_false_iff, beq_iff_eq, beq_eq_false_iff_ne, ne_eq, Int.not_lt, Int.not_le, Decidable.not_not] at hg62); first | exact hg62 rfl | (simp at hg62; done) | simp_all
                · try simp only [decide_eq_true_eq, decide_eq_false_iff_not, Bool.not_eq_true', Bool.not_eq_false', Bool.not_eq_eq_eq_not, Bool.not_true, Bool.not_false, Bool.and_eq_true, Bool.or_eq_true, Bool.or_eq_false_iff, beq_iff_eq, beq_eq_false_iff_ne, ne_eq, Int.not_lt, Int.not_le, Decidable.not_not] at hg62
                  refine g_step_yes (j := 3) (t := 62) rfl rfl rfl rfl (s_val (v_move rfl) rfl rfl ?_)
                  refine g_step_yes (j := 3) (t := 62) rfl rfl rfl rfl (s_val (v_move rfl) rfl rfl ?_)
                  refine g_step_yes (j := 3) (t := 62) rfl rfl rfl rfl (s_val (v_gtr rfl rfl) rfl rfl ?_)
                  refine g_step_yes (j := 3) (t := 62) rfl rfl rfl rfl (s_val (v_bool_neq ty4 rfl rfl) rfl rfl ?_)
                  refine g_step rfl (s_val (v_pick_f rfl rfl) rfl rfl ?_)
                  refine g_nil ?_
                  refine g_next hK68 ?_
                  refine g_cond rfl (fun hc67 => ?_) (fun hc67 => ?_)
                  · exfalso; (try simp only [decide_eq_true_eq, decide_eq_false_iff_not, Bool.not_eq_true', Bool.not_eq_false', Bool.not_eq_eq_eq_not, Bool.not_true, Bool.not_false, Bool.and_eq_true, Bool.or_eq_true, Bool.or_eq_false_iff, beq_iff_eq, beq_eq_false_iff_ne, ne_eq, Int.not_lt, Int.not_le, Decidable.not_not] at hc67); first | exact hc67 rfl | exact hc67 | (simp at hc67; done) | (revert hc67; simp; done) | simp_all
                  · try simp only [decide_eq_true_eq, decide_eq_false_iff_not, Bool.not_eq_true', Bool.not_eq_false', Bool.not_eq_eq_eq_not, Bool.not_true, Bool.not_false, Bool.and_eq_true, Bool.or_eq_true, Bool.or_eq_false_iff, beq_iff_eq, beq_eq_false_iff_ne, ne_eq, Int.not_lt, Int.not_le, Decidable.not_not] at hc67
                    refine g_skip ?_
                    refine g_next hK67 ?_
                    refine g_seq (fun K69 hK69 => ?_)
                    refine g_seq (fun K70 hK70 => ?_)
                    refine g_region ?_
                    refine g_step rfl (s_val (v_move rfl) rfl rfl ?_)
                    refine g_step rfl (s_val (v_lss rfl rfl) rfl rfl ?_)
                    refine g_step rfl (s_val (v_move rfl) rfl rfl ?_)
                    refine g_split 70 rfl (fun hg70 => ?_) (fun hg70 => ?_)
                    · try simp only [decide_eq_true_eq, decide_eq_false_iff_not, Bool.not_eq_true', Bool.not_eq_false', Bool.not_eq_eq_eq_not, Bool.not_true, Bool.not_false, Bool.and_eq_true, Bool.or_eq_true, Bool.or_eq_false_iff, beq_iff_eq, beq_eq_false_iff_ne, ne_eq, Int.not_lt, Int.not_le, Decidable.not_not] at hg70
                      refine g_step_no (j := 2) (t := 70) rfl rfl rfl rfl rfl rfl rfl ?_
                      refine g_step_no (j := 2) (t := 70) rfl rfl rfl rfl rfl rfl rfl ?_
                      refine g_step rfl (s_val (v_pick_t rfl rfl) rfl rfl ?_)
                      refine g_nil ?_
                      refine g_next hK70 ?_
                      first | refine g_keep [0, 7, 73] [] [] (keep_cons rfl (keep_cons rfl (keep_cons rfl keep_nil))) lkeep_nil keep_nil rfl ?_ | refine g_keep [0, 7, 73] [] [] rfl rfl rfl rfl ?_
                      refine g_cond rfl (fun _ => ?_) (fun h => by cases h)
                      refine g_seq (fun K71 hK71 => ?_)
                      refine g_region ?_
                      refine g_step rfl (s_val (v_move rfl) rfl rfl ?_)
                      refine g_step rfl (s_callp rfl rfl rfl (mname_ok kd _) ?_)
                      rintro _ rfl
                      refine g_step rfl (s_val (v_seq rfl rfl) rfl rfl ?_)
                      refine g_step rfl (s_val (v_move rfl) rfl rfl ?_)
                      refine g_split 77 rfl (fun hg77 => ?_) (fun hg77 => ?_)
                      · try simp only [decide_eq_true_eq, decide_eq_false_iff_not, Bool.not_eq_true', Bool.not_eq_false', Bool.not_eq_eq_eq_not, Bool.not_true, Bool.not_false, Bool.and_eq_true, Bool.or_eq_true, Bool.or_eq_false_iff, beq_iff_eq, beq_eq_false_iff_ne, ne_eq, Int.not_lt, Int.not_le, Decidable.not_not] at hg77
                        refine g_step_yes (j := 3) (t := 77) rfl rfl rfl rfl (s_callp rfl rfl rfl (awake10_ok _) ?_)
                        rintro _ rfl
                        refine g_step rfl (s_val (v_pick_t rfl rfl) rfl rfl ?_)
                        refine g_step rfl (s_val (v_assign rfl) rfl rfl ?_)
                        refine g_nil ?_
                        refine g_next hK71 ?_
                        refine g_ret ?_
                        refine g_then_ret ?_
                        refine g_end1 (.inl rfl) Try.results4 (.tmp rfl) [] (ASub.refl _) (AHeap.sub_refl _) (fun p hp => by cases hp) ⟨rfl, ?_⟩
                        rfl
                      · exfalso; (try simp only [decide_eq_true_eq, decide_eq_false_iff_not, Bool.not_eq_true', Bool.not_eq_false', Bool.not_eq_eq_eq_not, Bool.not_true, Bool.not_false, Bool.and_eq_true, Bool.or_eq_true, Bool.or_eq_false_iff, beq_iff_eq, beq_eq_false_iff_ne, ne_eq, Int.not_lt, Int.not_le, Decidable.not_not] at hg77); rw [show kName kd = ⟨#[]⟩ from if_pos (by omega)] at hg77; simp at hg77
                    · try simp only [decide_eq_true_eq, decide_eq_false_iff_not, Bool.not_eq_true', Bool.not_eq_false', Bool.not_eq_eq_eq_not, Bool.not_true, Bool.not_false, Bool.and_eq_true, Bool.or_eq_true, Bool.or_eq_false_iff, beq_iff_eq, beq_eq_false_iff_ne, ne_eq, Int.not_lt, Int.not_le, Decidable.not_not] at hg70
                      refine g_step_yes (j := 2) (t := 70) rfl rfl rfl rfl (s_val (v_move rfl) rfl rfl ?_)
                      refine g_step_yes (j := 2) (t := 70) rfl rfl rfl rfl (s_val (v_gtr rfl rfl) rfl rfl ?_)
                      refine g_step rfl (s_val (v_pick_f rfl rfl) rfl rfl ?_)
                      refine g_nil ?_
                      refine g_next hK70 ?_
                      first | refine g_keep [0, 7, 73] [] [] (keep_cons rfl (keep_cons rfl (keep_cons rfl keep_nil))) lkeep_nil keep_nil rfl ?_ | refine g_keep [0, 7, 73] [] [] rfl rfl rfl rfl ?_
                      refine g_cond rfl (fun hc73 => ?_) (fun hc73 => ?_)
                      · try simp only [decide_eq_true_eq, decide_eq_false_iff_not, Bool.not_eq_true', Bool.not_eq_false', Bool.not_eq_eq_eq_not, Bool.not_true, Bool.not_false, Bool.and_eq_true, Bool.or_eq_true, Bool.or_eq_false_iff, beq_iff_eq, beq_eq_false_iff_ne, ne_eq, Int.not_lt, Int.not_le, Decidable.not_not] at hc73
                        refine g_seq (fun K72 hK72 => ?_)
                        refine g_region ?_
                        refine g_step rfl (s_val (v_move rfl) rfl rfl ?_)
                        refine g_step rfl (s_callp rfl rfl rfl (mname_ok kd _) ?_)
                        rintro _ rfl
                        refine g_step rfl (s_val (v_seq rfl rfl) rfl rfl ?_)
                        refine g_step rfl (s_val (v_move rfl) rfl rfl ?_)
                        refine g_split 77 rfl (fun hg77 => ?_) (fun hg77 => ?_)
                        · try simp only [decide_eq_true_eq, decide_eq_false_iff_not, Bool.not_eq_true', Bool.not_eq_false', Bool.not_eq_eq_eq_not, Bool.not_true, Bool.not_false, Bool.and_eq_true, Bool.or_eq_true, Bool.or_eq_false_iff, beq_iff_eq, beq_eq_false_iff_ne, ne_eq, Int.not_lt, Int.not_le, Decidable.not_not] at hg77
                          refine g_step_yes (j := 3) (t := 77) rfl rfl rfl rfl (s_callp rfl rfl rfl (awake10_ok _) ?_)
                          rintro _ rfl
                          refine g_step rfl (s_val (v_pick_t rfl rfl) rfl rfl ?_)
                          refine g_step rfl (s_val (v_assign rfl) rfl rfl ?_)
                          refine g_nil ?_
                          refine g_next hK72 ?_
                          refine g_ret ?_
                          refine g_then_ret ?_
                          refine g_end1 (.inl rfl) Try.results4 (.tmp rfl) [] (ASub.refl _) (AHeap.sub_refl _) (fun p hp => by cases hp) ⟨rfl, ?_⟩
                          rfl
                        · exfalso; (try simp only [decide_eq_true_eq, decide_eq_false_iff_not, Bool.not_eq_true', Bool.not_eq_false', Bool.not_eq_eq_eq_not, Bool.not_true, Bool.not_false, Bool.and_eq_true, Bool.or_eq_true, Bool.or_eq_false_iff, beq_iff_eq, beq_eq_false_iff_ne, ne_eq, Int.not_lt, Int.not_le, Decidable.not_not] at hg77); rw [show kName kd = ⟨#[]⟩ from if_pos (by omega)] at hg77; simp at hg77
                      · try simp only [decide_eq_true_eq, decide_eq_false_iff_not, Bool.not_eq_true', Bool.not_eq_false', Bool.not_eq_eq_eq_not, Bool.not_true, Bool.not_false, Bool.and_eq_true, Bool.or_eq_true, Bool.or_eq_false_iff, beq_iff_eq, beq_eq_false_iff_ne, ne_eq, Int.not_lt, Int.not_le, Decidable.not_not] at hc73
                        refine g_skip ?_
                        refine g_next hK69 ?_
                        refine g_seq (fun K73 hK73 => ?_)
                        refine g_draw (n := 11) (fun j => !([] : List Nat).contains j) rfl rfl ?_
                        refine m_take 0 false rfl rfl (by kernel_rfl) (by kernel_rfl) (by kernel_rfl) (fun _ _ _ _ h => h) (v_move rfl) rfl rfl ?_
                        refine m_take 2 false rfl rfl (by kernel_rfl) (by kernel_rfl) (by kernel_rfl) (fun _ _ _ _ h => h) (v_move rfl) rfl rfl ?_
                        refine m_take 3 false rfl rfl (by kernel_rfl) (by kernel_rfl) (by kernel_rfl) (fun _ _ _ _ h => h) (v_move rfl) rfl rfl ?_
                        refine m_take 4 false rfl rfl (by kernel_rfl) (by kernel_rfl) (by kernel_rfl) (fun _ _ _ _ h => h) (v_indexAddr ty36 ty9 rfl rfl (by first | rfl | assumption) (Int.toNat_of_nonneg (by omega)).symm (map_get (kName_get (k := kd) (by omega))) rfl) rfl rfl ?_
                        refine m_take 5 true rfl rfl (by kernel_rfl) (by kernel_rfl) (by kernel_rfl) (fun _ _ _ _ h => h) (by first | exact v_load ty9 rfl rfl (by first | rfl | assumption) (map_get (kName_get (k := kd) (by omega))) rfl | exact v_load_box ty9 rfl rfl (by assumption) rfl) rfl rfl ?_
                        refine m_one 1 (by kernel_rfl) rfl rfl ?_
                        refine sm_callp rfl rfl rfl (mname_ok kd _) ?_
                        rintro _ rfl
                        refine m_take 6 false rfl rfl (by kernel_rfl) (by kernel_rfl) (by kernel_rfl) (fun _ _ _ _ h => h) (v_seq rfl rfl) rfl rfl ?_
                        refine m_take 7 false rfl rfl (by kernel_rfl) (by kernel_rfl) (by kernel_rfl) (fun _ _ _ _ h => h) (v_move rfl) rfl rfl ?_
                        refine m_split 87 rfl (fun hg87 => ?_) (fun hg87 => ?_)
                        · try simp only [decide_eq_true_eq, decide_eq_false_iff_not, Bool.not_eq_true', Bool.not_eq_false', Bool.not_eq_eq_eq_not, Bool.not_true, Bool.not_false, Bool.and_eq_true, Bool.or_eq_true, Bool.or_eq_false_iff, beq_iff_eq, beq_eq_false_iff_ne, ne_eq, Int.not_lt, Int.not_le, Decidable.not_not] at hg87
                          refine m_one_yes (j := 7) (t := 87) 8 (by kernel_rfl) rfl rfl rfl rfl rfl ?_
                          refine sm_callp rfl rfl rfl (awake10_ok _) ?_
                          rintro _ rfl
                          refine m_take 9 false rfl rfl (by kernel_rfl) (by kernel_rfl) (by kernel_rfl) (fun _ _ _ _ h => h) (v_pick_t rfl rfl) rfl rfl ?_
                          refine m_take 10 false rfl rfl (by kernel_rfl) (by kernel_rfl) (by kernel_rfl) (fun _ _ _ _ h => h) (v_assign rfl) rfl rfl ?_
                          refine m_done (by kernel_rfl) ?_
                          refine g_next hK73 ?_
                          refine g_ret ?_
                          refine g_end1 (.inl rfl) Try.results4 (.tmp rfl) [] (ASub.refl _) (AHeap.sub_refl _) (fun p hp => by cases hp) ⟨rfl, ?_⟩
                          rfl
                        · exfalso; (try simp only [decide_eq_true_eq, decide_eq_false_iff_not, Bool.not_eq_true', Bool.not_eq_false', Bool.not_eq_eq_eq_not, Bool.not_true, Bool.not_false, Bool.and_eq_true, Bool.or_eq_true, Bool.or_eq_false_iff, beq_iff_eq, beq_eq_false_iff_ne, ne_eq, Int.not_lt, Int.not_le, Decidable.not_not] at hg87); first | exact hg87 rfl | exact hg87 | simp_all
    · try simp only [decide_eq_true_eq, decide_eq_false_iff_not, Bool.not_eq_true', Bool.not_eq_false', Bool.not_eq_eq_eq_not, Bool.not_true, Bool.not_false, Bool.and_eq_true, Bool.or_eq_true, Bool.or_eq_false_iff, beq_iff_eq, beq_eq_false_iff_ne, ne_eq, Int.not_lt, Int.not_le, Decidable.not_not] at hg21
      refine g_step_no (j := 5) (t := 21) rfl rfl rfl rfl rfl rfl rfl ?_
      refine g_step_no (j := 5) (t := 21) rfl rfl rfl rfl rfl rfl rfl ?_
      refine g_step rfl (s_val (v_pick_f rfl rfl) rfl rfl ?_)
      refine g_step rfl (s_val (v_move rfl) rfl rfl ?_)
      refine g_step_no (j := 9) (t := 25) rfl rfl rfl rfl rfl rfl rfl ?_
      refine g_step_no (j := 9) (t := 25) rfl rfl rfl rfl rfl rfl rfl ?_
      refine g_step_no (j := 9) (t := 25) rfl rfl rfl rfl rfl rfl rfl ?_
      refine g_step rfl (s_val (v_pick_f rfl rfl) rfl rfl ?_)
      refine g_step rfl (s_val (v_bool_neq ty4 rfl rfl) rfl rfl ?_)
      refine g_step rfl (s_val (v_move rfl) rfl rfl ?_)
      refine g_split 31 rfl (fun hg31 => ?_) (fun hg31 => ?_)
      · exfalso; (try simp only [decide_eq_true_eq, decide_eq_false_iff_not, Bool.not_eq_true', Bool.not_eq_false', Bool.not_eq_eq_eq_not, Bool.not_true, Bool.not_false, Bool.and_eq_true, Bool.or_eq_true, Bool.or_eq_false_iff, beq_iff_eq, beq_eq_false_iff_ne, ne_eq, Int.not_lt, Int.not_le, Decidable.not_not] at hg31); first | (have h1 := @has10_in kd p; simp_all; omega) | (simp_all; done) | (have h1 := @has10_in kd p; revert hg31; cases has10 kd p <;> simp_all <;> omega)
      · try simp only [decide_eq_true_eq, decide_eq_false_iff_not, Bool.not_eq_true', Bool.not_eq_false', Bool.not_eq_eq_eq_not, Bool.not_true, Bool.not_false, Bool.and_eq_true, Bool.or_eq_true, Bool.or_eq_false_iff, beq_iff_eq, beq_eq_false_iff_ne, ne_eq, Int.not_lt, Int.not_le, Decidable.not_not] at hg31
        refine g_step_yes (j := 15) (t := 31) rfl rfl rfl rfl (s_val (v_move rfl) rfl rfl ?_)
        refine g_step_yes (j := 15) (t := 31) rfl rfl rfl rfl (s_callp rfl rfl rfl (greets_ok kd _) ?_)
        rintro _ rfl
        refine g_step_yes (j := 15) (t := 31) rfl rfl rfl rfl (s_val (v_move rfl) rfl rfl ?_)
        refine g_step_yes (j := 15) (t := 31) rfl rfl rfl rfl (s_val (v_geq rfl rfl) rfl rfl ?_)
        refine g_step_yes (j := 15) (t := 31) rfl rfl rfl rfl (s_val (v_move rfl) rfl rfl ?_)
        refine g_split 36 rfl (fun hg36 => ?_) (fun hg36 => ?_)
        · try simp only [decide_eq_true_eq, decide_eq_false_iff_not, Bool.not_eq_true', Bool.not_eq_false', Bool.not_eq_eq_eq_not, Bool.not_true, Bool.not_false, Bool.and_eq_true, Bool.or_eq_true, Bool.or_eq_false_iff, beq_iff_eq, beq_eq_false_iff_ne, ne_eq, Int.not_lt, Int.not_le, Decidable.not_not] at hg36
          refine g_step_yes (j := 20) (t := 36) rfl rfl rfl rfl (s_val (v_move rfl) rfl rfl ?_)
          refine g_step_yes (j := 20) (t := 36) rfl rfl rfl rfl (s_val (v_leq rfl rfl) rfl rfl ?_)
          refine g_step_yes (j := 15) (t := 31) rfl rfl rfl rfl (s_val (v_pick_t rfl rfl) rfl rfl ?_)
          refine g_step_yes (j := 15) (t := 31) rfl rfl rfl rfl (s_val (v_bool_neq ty4 rfl rfl) rfl rfl ?_)
          refine g_step rfl (s_val (v_pick_f rfl rfl) rfl rfl ?_)
          refine g_nil ?_
          refine g_next hK5 ?_
          first | refine g_keep [0, 2, 41] [] [] (keep_cons rfl (keep_cons rfl (keep_cons rfl keep_nil))) lkeep_nil keep_nil rfl ?_ | refine g_keep [0, 2, 41] [] [] rfl rfl rfl rfl ?_
          refine g_cond rfl (fun hc41 => ?_) (fun hc41 => ?_)
          · exfalso; (try simp only [decide_eq_true_eq, decide_eq_false_iff_not, Bool.not_eq_true', Bool.not_eq_false', Bool.not_eq_eq_eq_not, Bool.not_true, Bool.not_false, Bool.and_eq_true, Bool.or_eq_true, Bool.or_eq_false_iff, beq_iff_eq, beq_eq_false_iff_ne, ne_eq, Int.not_lt, Int.not_le, Decidable.not_not] at hc41); first | omega | (simp_all; done) | (simp_all; omega) | (revert hc41; simp; omega)
          · try simp only [decide_eq_true_eq, decide_eq_false_iff_not, Bool.not_eq_true', Bool.not_eq_false', Bool.not_eq_eq_eq_not, Bool.not_true, Bool.not_false, Bool.and_eq_true, Bool.or_eq_true, Bool.or_eq_false_iff, beq_iff_eq, beq_eq_false_iff_ne, ne_eq, Int.not_lt, Int.not_le, Decidable.not_not] at hc41
            refine g_skip ?_
            refine g_next hK4 ?_
            refine g_seq (fun K74 hK74 => ?_)
            refine g_cond rfl (fun h => by cases h) (fun _ => ?_)
            refine g_skip ?_
            refine g_next hK74 ?_
            refine g_seq (fun K75 hK75 => ?_)
            refine g_region ?_
            refine g_step rfl (s_lit ty36 ty9 rfl rfl rfl rfl rfl rfl rfl ?_)
            refine g_step rfl (s_val (v_assign rfl) rfl rfl ?_)
            refine g_nil ?_
            refine g_next hK75 ?_
            refine g_seq (fun K76 hK76 => ?_)
            refine g_region ?_
            refine g_step rfl (s_val (v_assign rfl) rfl rfl ?_)
            refine g_nil ?_
            refine g_next hK76 ?_
            refine g_seq (fun K77 hK77 => ?_)
            refine g_seq (fun K78 hK78 => ?_)
            refine g_region ?_
            refine g_step rfl (s_val (v_assign rfl) rfl rfl ?_)
            refine g_nil ?_
            refine g_next hK78 ?_
            refine g_block ?_
            first | refine g_keep [0, 2, 7, 8, 9] [] [] (keep_cons rfl (keep_cons rfl (keep_cons rfl (keep_cons rfl (keep_cons rfl keep_nil))))) lkeep_nil keep_nil rfl ?_ | refine g_keep [0, 2, 7, 8, 9] [] [] rfl rfl rfl rfl ?_
            refine g_loop (fun n env L B G => ∃ (k : Nat) (u : Int), k ≤ 10 ∧ n = 10 - k ∧ env = [(0, .int .i64 kd), (2, .str s), (7, .imm (kNames.map .str)), (8, .int .i64 u), (9, .int .i64 (k : Int))] ∧ L = [] ∧ B = [] ∧ H = G ∧ lastI (kNames.drop k) (k : Int) s u = kOf s) (10 - 1) ⟨1, 0, (by decide), rfl, rfl, rfl, rfl, rfl, kLast s⟩ (fun n env L B G hI => ?_)
            obtain ⟨k, u, hk, rfl, rfl, rfl, rfl, rfl, hc⟩ := hI
            refine g_seq (fun K79 hK79 => ?_)
            refine g_seq (fun K80 hK80 => ?_)
            refine g_region ?_
            refine g_step rfl (s_val (v_move rfl) rfl rfl ?_)
            refine g_step rfl (s_val (v_lss rfl rfl) rfl rfl ?_)
            refine g_nil ?_
            refine g_next hK80 ?_
            refine g_cond rfl (fun hc44 => ?_) (fun hc44 => ?_)
            · try simp only [decide_eq_true_eq, decide_eq_false_iff_not, Bool.not_eq_true', Bool.not_eq_false', Bool.not_eq_eq_eq_not, Bool.not_true, Bool.not_false, Bool.and_eq_true, Bool.or_eq_true, Bool.or_eq_false_iff, beq_iff_eq, beq_eq_false_iff_ne, ne_eq, Int.not_lt, Int.not_le, Decidable.not_not] at hc44
              obtain ⟨x, hx⟩ := get_some (l := kNames) (k := k) (by show k < 10; omega)
              refine g_skip ?_
              refine g_next hK79 ?_
              refine g_seq (fun K81 hK81 => ?_)
              refine g_block ?_
              refine g_seq (fun K82 hK82 => ?_)
              refine g_region ?_
              refine g_step rfl (s_val (v_move rfl) rfl rfl ?_)
              refine g_step rfl (s_val (v_move rfl) rfl rfl ?_)
              refine g_step rfl (s_val (v_indexAddr ty36 ty9 rfl rfl (by first | rfl | assumption) (by first | rfl | exact (rfl : (0 : Int) = ((0 : Nat) : Int)) | exact (Int.toNat_of_nonneg (by omega)).symm) (by first | assumption | exact map_get (by assumption) | rfl) rfl) rfl rfl ?_)
              refine g_step rfl (s_val (by first | exact v_load ty9 rfl rfl (by first | rfl | assumption) (by first | assumption | exact map_get (by assumption) | rfl) rfl | exact v_load_box ty9 rfl rfl (by assumption) rfl) rfl rfl ?_)
              refine g_step rfl (s_val (v_move rfl) rfl rfl ?_)
              refine g_step rfl (s_val (v_seq rfl rfl) rfl rfl ?_)
              refine g_nil ?_
              refine g_next hK82 ?_
              refine g_cond rfl (fun hc52 => ?_) (fun hc52 => ?_)
              · try simp only [decide_eq_true_eq, decide_eq_false_iff_not, Bool.not_eq_true', Bool.not_eq_false', Bool.not_eq_eq_eq_not, Bool.not_true, Bool.not_false, Bool.and_eq_true, Bool.or_eq_true, Bool.or_eq_false_iff, beq_iff_eq, beq_eq_false_iff_ne, ne_eq, Int.not_lt, Int.not_le, Decidable.not_not] at hc52
                refine g_region ?_
                refine g_step rfl (s_val (v_move rfl) rfl rfl ?_)
                refine g_step rfl (s_val (v_assign rfl) rfl rfl ?_)
                refine g_nil ?_
                refine g_block_normal ?_
                refine g_next hK81 ?_
                refine g_region ?_
                refine g_step rfl (s_val (v_move rfl) rfl rfl ?_)
                refine g_step rfl (s_val (v_add rfl rfl (by omega)) rfl rfl ?_)
                refine g_step rfl (s_val (v_assign rfl) rfl rfl ?_)
                refine g_nil ?_
                first | refine g_keep [0, 2, 7, 8, 9] [] [] (keep_cons rfl (keep_cons rfl (keep_cons rfl (keep_cons rfl (keep_cons rfl keep_nil))))) lkeep_nil keep_nil rfl ?_ | refine g_keep [0, 2, 7, 8, 9] [] [] rfl rfl rfl rfl ?_
                exact g_round _ (by omega) ⟨k + 1, _, by omega, rfl, rfl, rfl, rfl, rfl, by rw [drop_cons hx, lastI] at hc; first | (rw [if_pos hc52] at hc; exact hc) | (rw [if_neg hc52] at hc; exact hc)⟩
              · try simp only [decide_eq_true_eq, decide_eq_false_iff_not, Bool.not_eq_true', Bool.not_eq_false', Bool.not_eq_eq_eq_not, Bool.not_true, Bool.not_false, Bool.and_eq_true, Bool.or_eq_true, Bool.or_eq_false_iff, beq_iff_eq, beq_eq_false_iff_ne, ne_eq, Int.not_lt, Int.not_le, Decidable.not_not] at hc52
                refine g_skip ?_
                refine g_block_normal ?_
                refine g_next hK81 ?_
                refine g_region ?_
                refine g_step rfl (s_val (v_move rfl) rfl rfl ?_)
                refine g_step rfl (s_val (v_add rfl rfl (by omega)) rfl rfl ?_)
                refine g_step rfl (s_val (v_assign rfl) rfl rfl ?_)
                refine g_nil ?_
                first | refine g_keep [0, 2, 7, 8, 9] [] [] (keep_cons rfl (keep_cons rfl (keep_cons rfl (keep_cons rfl (keep_cons rfl keep_nil))))) lkeep_nil keep_nil rfl ?_ | refine g_keep [0, 2, 7, 8, 9] [] [] rfl rfl rfl rfl ?_
                exact g_round _ (by omega) ⟨k + 1, _, by omega, rfl, rfl, rfl, rfl, rfl, by rw [drop_cons hx, lastI] at hc; first | (rw [if_pos hc52] at hc; exact hc) | (rw [if_neg hc52] at hc; exact hc)⟩
            · try simp only [decide_eq_true_eq, decide_eq_false_iff_not, Bool.not_eq_true', Bool.not_eq_false', Bool.not_eq_eq_eq_not, Bool.not_true, Bool.not_false, Bool.and_eq_true, Bool.or_eq_true, Bool.or_eq_false_iff, beq_iff_eq, beq_eq_false_iff_ne, ne_eq, Int.not_lt, Int.not_le, Decidable.not_not] at hc44
              obtain rfl : k = 10 := by omega
              obtain rfl : u = kOf s := hc
              refine g_exit ?_
              refine g_then_exit ?_
              refine g_then_exit ?_
              refine g_block_same ?_
              refine g_next hK77 ?_
              refine g_seq (fun K83 hK83 => ?_)
              refine g_region ?_
              refine g_step rfl (s_val (v_move rfl) rfl rfl ?_)
              refine g_step rfl (s_callp rfl rfl rfl (mkind_ok s _) ?_)
              rintro _ rfl
              refine g_step rfl (s_val (v_move rfl) rfl rfl ?_)
              refine g_step rfl (s_val (v_extract rfl rfl) rfl rfl ?_)
              refine g_step rfl (s_val (v_extract rfl rfl) rfl rfl ?_)
              refine g_step rfl (s_val (v_assign rfl) rfl rfl ?_)
              refine g_step rfl (s_val (v_assign rfl) rfl rfl ?_)
              refine g_nil ?_
              refine g_next hK83 ?_
              refine g_seq (fun K84 hK84 => ?_)
              refine g_seq (fun K85 hK85 => ?_)
              refine g_region ?_
              refine g_step rfl (s_val (v_move rfl) rfl rfl ?_)
              refine g_step rfl (s_val (v_move rfl) rfl rfl ?_)
              refine g_step rfl (s_val (v_neq rfl rfl) rfl rfl ?_)
              refine g_step rfl (s_val (v_move rfl) rfl rfl ?_)
              refine g_split 62 rfl (fun hg62 => ?_) (fun hg62 => ?_)
              · exfalso; (try simp only [decide_eq_true_eq, decide_eq_false_iff_not, Bool.not_eq_true', Bool.not_eq_false', Bool.not_eq_eq_eq_not, Bool.not_true, Bool.not_false, Bool.and_eq_true, Bool.or_eq_true, Bool.or_eq_false_iff, beq_iff_eq, beq_eq_false_iff_ne, ne_eq, Int.not_lt, Int.not_le, Decidable.not_not] at hg62); first | exact hg62 rfl | (simp at hg62; done) | simp_all
              · try simp only [decide_eq_true_eq, decide_eq_false_iff_not, Bool.not_eq_true', Bool.not_eq_false', Bool.not_eq_eq_eq_not, Bool.not_true, Bool.not_false, Bool.and_eq_true, Bool.or_eq_true, Bool.or_eq_false_iff, beq_iff_eq, beq_eq_false_iff_ne, ne_eq, Int.not_lt, Int.not_le, Decidable.not_not] at hg62
                refine g_step_yes (j := 3) (t := 62) rfl rfl rfl rfl (s_val (v_move rfl) rfl rfl ?_)
                refine g_step_yes (j := 3) (t := 62) rfl rfl rfl rfl (s_val (v_move rfl) rfl rfl ?_)
                refine g_step_yes (j := 3) (t := 62) rfl rfl rfl rfl (s_val (v_gtr rfl rfl) rfl rfl ?_)
                refine g_step_yes (j := 3) (t := 62) rfl rfl rfl rfl (s_val (v_bool_neq ty4 rfl rfl) rfl rfl ?_)
                refine g_step rfl (s_val (v_pick_f rfl rfl) rfl rfl ?_)
                refine g_nil ?_
                refine g_next hK85 ?_
                refine g_cond rfl (fun hc67 => ?_) (fun hc67 => ?_)
                · exfalso; (try simp only [decide_eq_true_eq, decide_eq_false_iff_not, Bool.not_eq_true', Bool.not_eq_false', Bool.not_eq_eq_eq_not, Bool.not_true, Bool.not_false, Bool.and_eq_true, Bool.or_eq_true, Bool.or_eq_false_iff, beq_iff_eq, beq_eq_false_iff_ne, ne_eq, Int.not_lt, Int.not_le, Decidable.not_not] at hc67); first | exact hc67 rfl | exact hc67 | (simp at hc67; done) | (revert hc67; simp; done) | simp_all
                · try simp only [decide_eq_true_eq, decide_eq_false_iff_not, Bool.not_eq_true', Bool.not_eq_false', Bool.not_eq_eq_eq_not, Bool.not_true, Bool.not_false, Bool.and_eq_true, Bool.or_eq_true, Bool.or_eq_false_iff, beq_iff_eq, beq_eq_false_iff_ne, ne_eq, Int.not_lt, Int.not_le, Decidable.not_not] at hc67
                  refine g_skip ?_
                  refine g_next hK84 ?_
                  refine g_seq (fun K86 hK86 => ?_)
                  refine g_seq (fun K87 hK87 => ?_)
                  refine g_region ?_
                  refine g_step rfl (s_val (v_move rfl) rfl rfl ?_)
                  refine g_step rfl (s_val (v_lss rfl rfl) rfl rfl ?_)
                  refine g_step rfl (s_val (v_move rfl) rfl rfl ?_)
                  refine g_split 70 rfl (fun hg70 => ?_) (fun hg70 => ?_)
                  · try simp only [decide_eq_true_eq, decide_eq_false_iff_not, Bool.not_eq_true', Bool.not_eq_false', Bool.not_eq_eq_eq_not, Bool.not_true, Bool.not_false, Bool.and_eq_true, Bool.or_eq_true, Bool.or_eq_false_iff, beq_iff_eq, beq_eq_false_iff_ne, ne_eq, Int.not_lt, Int.not_le, Decidable.not_not] at hg70
                    refine g_step_no (j := 2) (t := 70) rfl rfl rfl rfl rfl rfl rfl ?_
                    refine g_step_no (j := 2) (t := 70) rfl rfl rfl rfl rfl rfl rfl ?_
                    refine g_step rfl (s_val (v_pick_t rfl rfl) rfl rfl ?_)
                    refine g_nil ?_
                    refine g_next hK87 ?_
                    first | refine g_keep [0, 7, 73] [] [] (keep_cons rfl (keep_cons rfl (keep_cons rfl keep_nil))) lkeep_nil keep_nil rfl ?_ | refine g_keep [0, 7, 73] [] [] rfl rfl rfl rfl ?_
                    refine g_cond rfl (fun _ => ?_) (fun h => by cases h)
                    refine g_seq (fun K88 hK88 => ?_)
                    refine g_region ?_
                    refine g_step rfl (s_val (v_move rfl) rfl rfl ?_)
                    refine g_step rfl (s_callp rfl rfl rfl (mname_ok kd _) ?_)
                    rintro _ rfl
                    refine g_step rfl (s_val (v_seq rfl rfl) rfl rfl ?_)
                    refine g_step rfl (s_val (v_move rfl) rfl rfl ?_)
                    refine g_split 77 rfl (fun hg77 => ?_) (fun hg77 => ?_)
                    · try simp only [decide_eq_true_eq, decide_eq_false_iff_not, Bool.not_eq_true', Bool.not_eq_false', Bool.not_eq_eq_eq_not, Bool.not_true, Bool.not_false, Bool.and_eq_true, Bool.or_eq_true, Bool.or_eq_false_iff, beq_iff_eq, beq_eq_false_iff_ne, ne_eq, Int.not_lt, Int.not_le, Decidable.not_not] at hg77
                      refine g_step_yes (j := 3) (t := 77) rfl rfl rfl rfl (s_callp rfl rfl rfl (awake10_ok _) ?_)
                      rintro _ rfl
                      refine g_step rfl (s_val (v_pick_t rfl rfl) rfl rfl ?_)
                      refine g_step rfl (s_val (v_assign rfl) rfl rfl ?_)
                      refine g_nil ?_
                      refine g_next hK88 ?_
                      refine g_ret ?_
                      refine g_then_ret ?_
                      refine g_end1 (.inl rfl) Try.results4 (.tmp rfl) [] (ASub.refl _) (AHeap.sub_refl _) (fun p hp => by cases hp) ⟨rfl, ?_⟩
                      rfl
                    · exfalso; (try simp only [decide_eq_true_eq, decide_eq_false_iff_not, Bool.not_eq_true', Bool.not_eq_false', Bool.not_eq_eq_eq_not, Bool.not_true, Bool.not_false, Bool.and_eq_true, Bool.or_eq_true, Bool.or_eq_false_iff, beq_iff_eq, beq_eq_false_iff_ne, ne_eq, Int.not_lt, Int.not_le, Decidable.not_not] at hg77); rw [show kName kd = ⟨#[]⟩ from if_pos (by omega)] at hg77; simp at hg77
                  · try simp only [decide_eq_true_eq, decide_eq_false_iff_not, Bool.not_eq_true', Bool.not_eq_false', Bool.not_eq_eq_eq_not, Bool.not_true, Bool.not_false, Bool.and_eq_true, Bool.or_eq_true, Bool.or_eq_false_iff, beq_iff_eq, beq_eq_false_iff_ne, ne_eq, Int.not_lt, Int.not_le, Decidable.not_not] at hg70
                    refine g_step_yes (j := 2) (t := 70) rfl rfl rfl rfl (s_val (v_move rfl) rfl rfl ?_)
                    refine g_step_yes (j := 2) (t := 70) rfl rfl rfl rfl (s_val (v_gtr rfl rfl) rfl rfl ?_)
                    refine g_step rfl (s_val (v_pick_f rfl rfl) rfl rfl ?_)
                    refine g_nil ?_
                    refine g_next hK87 ?_
                    first | refine g_keep [0, 7, 73] [] [] (keep_cons rfl (keep_cons rfl (keep_cons rfl keep_nil))) lkeep_nil keep_nil rfl ?_ | refine g_keep [0, 7, 73] [] [] rfl rfl rfl rfl ?_
                    refine g_cond rfl (fun hc73 => ?_) (fun hc73 => ?_)
                    · try simp only [decide_eq_true_eq, decide_eq_false_iff_not, Bool.not_eq_true', Bool.not_eq_false', Bool.not_eq_eq_eq_not, Bool.not_true, Bool.not_false, Bool.and_eq_true, Bool.or_eq_true, Bool.or_eq_false_iff, beq_iff_eq, beq_eq_false_iff_ne, ne_eq, Int.not_lt, Int.not_le, Decidable.not_not] at hc73
                      refine g_seq (fun K89 hK89 => ?_)
                      refine g_region ?_
                      refine g_step rfl (s_val (v_move rfl) rfl rfl ?_)
                      refine g_step rfl (s_callp rfl rfl rfl (mname_ok kd _) ?_)
                      rintro _ rfl
                      refine g_step rfl (s_val (v_seq rfl rfl) rfl rfl ?_)
                      refine g_step rfl (s_val (v_move rfl) rfl rfl ?_)
                      refine g_split 77 rfl (fun hg77 => ?_) (fun hg77 => ?_)
                      · try simp only [decide_eq_true_eq, decide_eq_false_iff_not, Bool.not_eq_true', Bool.not_eq_false', Bool.not_eq_eq_eq_not, Bool.not_true, Bool.not_false, Bool.and_eq_true, Bool.or_eq_true, Bool.or_eq_false_iff, beq_iff_eq, beq_eq_false_iff_ne, ne_eq, Int.not_lt, Int.not_le, Decidable.not_not] at hg77
                        refine g_step_yes (j := 3) (t := 77) rfl rfl rfl rfl (s_callp rfl rfl rfl (awake10_ok _) ?_)
                        rintro _ rfl
                        refine g_step rfl (s_val (v_pick_t rfl rfl) rfl rfl ?_)
                        refine g_step rfl (s_val (v_assign rfl) rfl rfl ?_)
                        refine g_nil ?_
                        refine g_next hK89 ?_
                        refine g_ret ?_
                        refine g_then_ret ?_
                        refine g_end1 (.inl rfl) Try.results4 (.tmp rfl) [] (ASub.refl _) (AHeap.sub_refl _) (fun p hp => by cases hp) ⟨rfl, ?_⟩
                        rfl
                      · exfalso; (try simp only [decide_eq_true_eq, decide_eq_false_iff_not, Bool.not_eq_true', Bool.not_eq_false', Bool.not_eq_eq_eq_not, Bool.not_true, Bool.not_false, Bool.and_eq_true, Bool.or_eq_true, Bool.or_eq_false_iff, beq_iff_eq, beq_eq_false_iff_ne, ne_eq, Int.not_lt, Int.not_le, Decidable.not_not] at hg77); rw [show kName kd = ⟨#[]⟩ from if_pos (by omega)] at hg77; simp at hg77
                    · try simp only [decide_eq_true_eq, decide_eq_false_iff_not, Bool.not_eq_true', Bool.not_eq_false', Bool.not_eq_eq_eq_not, Bool.not_true, Bool.not_false, Bool.and_eq_true, Bool.or_eq_true, Bool.or_eq_false_iff, beq_iff_eq, beq_eq_false_iff_ne, ne_eq, Int.not_lt, Int.not_le, Decidable.not_not] at hc73
                      refine g_skip ?_
                      refine g_next hK86 ?_
                      refine g_seq (fun K90 hK90 => ?_)
                      refine g_draw (n := 11) (fun j => !([] : List Nat).contains j) rfl rfl ?_
                      refine m_take 0 false rfl rfl (by kernel_rfl) (by kernel_rfl) (by kernel_rfl) (fun _ _ _ _ h => h) (v_move rfl) rfl rfl ?_
                      refine m_take 2 false rfl rfl (by kernel_rfl) (by kernel_rfl) (by kernel_rfl) (fun _ _ _ _ h => h) (v_move rfl) rfl rfl ?_
                      refine m_take 3 false rfl rfl (by kernel_rfl) (by kernel_rfl) (by kernel_rfl) (fun _ _ _ _ h => h) (v_move rfl) rfl rfl ?_
                      refine m_take 4 false rfl rfl (by kernel_rfl) (by kernel_rfl) (by kernel_rfl) (fun _ _ _ _ h => h) (v_indexAddr ty36 ty9 rfl rfl (by first | rfl | assumption) (Int.toNat_of_nonneg (by omega)).symm (map_get (kName_get (k := kd) (by omega))) rfl) rfl rfl ?_
                      refine m_take 5 true rfl rfl (by kernel_rfl) (by kernel_rfl) (by kernel_rfl) (fun _ _ _ _ h => h) (by first | exact v_load ty9 rfl rfl (by first | rfl | assumption) (map_get (kName_get (k := kd) (by omega))) rfl | exact v_load_box ty9 rfl rfl (by assumption) rfl) rfl rfl ?_
                      refine m_one 1 (by kernel_rfl) rfl rfl ?_
                      refine sm_callp rfl rfl rfl (mname_ok kd _) ?_
                      rintro _ rfl
                      refine m_take 6 false rfl rfl (by kernel_rfl) (by kernel_rfl) (by kernel_rfl) (fun _ _ _ _ h => h) (v_seq rfl rfl) rfl rfl ?_
                      refine m_take 7 false rfl rfl (by kernel_rfl) (by kernel_rfl) (by kernel_rfl) (fun _ _ _ _ h => h) (v_move rfl) rfl rfl ?_
                      refine m_split 87 rfl (fun hg87 => ?_) (fun hg87 => ?_)
                      · try simp only [decide_eq_true_eq, decide_eq_false_iff_not, Bool.not_eq_true', Bool.not_eq_false', Bool.not_eq_eq_eq_not, Bool.not_true, Bool.not_false, Bool.and_eq_true, Bool.or_eq_true, Bool.or_eq_false_iff, beq_iff_eq, beq_eq_false_iff_ne, ne_eq, Int.not_lt, Int.not_le, Decidable.not_not] at hg87
                        refine m_one_yes (j := 7) (t := 87) 8 (by kernel_rfl) rfl rfl rfl rfl rfl ?_
                        refine sm_callp rfl rfl rfl (awake10_ok _) ?_
                        rintro _ rfl
                        refine m_take 9 false rfl rfl (by kernel_rfl) (by kernel_rfl) (by kernel_rfl) (fun _ _ _ _ h => h) (v_pick_t rfl rfl) rfl rfl ?_
                        refine m_take 10 false rfl rfl (by kernel_rfl) (by kernel_rfl) (by kernel_rfl) (fun _ _ _ _ h => h) (v_assign rfl) rfl rfl ?_
                        refine m_done (by kernel_rfl) ?_
                        refine g_next hK90 ?_
                        refine g_ret ?_
                        refine g_end1 (.inl rfl) Try.results4 (.tmp rfl) [] (ASub.refl _) (AHeap.sub_refl _) (fun p hp => by cases hp) ⟨rfl, ?_⟩
                        rfl
                      · exfalso; (try simp only [decide_eq_true_eq, decide_eq_false_iff_not, Bool.not_eq_true', Bool.not_eq_false', Bool.not_eq_eq_eq_not, Bool.not_true, Bool.not_false, Bool.and_eq_true, Bool.or_eq_true, Bool.or_eq_false_iff, beq_iff_eq, beq_eq_false_iff_ne, ne_eq, Int.not_lt, Int.not_le, Decidable.not_not] at hg87); first | exact hg87 rfl | exact hg87 | simp_all
        · try simp only [decide_eq_true_eq, decide_eq_false_iff_not, Bool.not_eq_true', Bool.not_eq_false', Bool.not_eq_eq_eq_not, Bool.not_true, Bool.not_false, Bool.and_eq_true, Bool.or_eq_true, Bool.or_eq_false_iff, beq_iff_eq, beq_eq_false_iff_ne, ne_eq, Int.not_lt, Int.not_le, Decidable.not_not] at hg36
          refine g_step_no (j := 20) (t := 36) rfl rfl rfl rfl rfl rfl rfl ?_
          refine g_step_no (j := 20) (t := 36) rfl rfl rfl rfl rfl rfl rfl ?_
          refine g_step_yes (j := 15) (t := 31) rfl rfl rfl rfl (s_val (v_pick_f rfl rfl) rfl rfl ?_)
          refine g_step_yes (j := 15) (t := 31) rfl rfl rfl rfl (s_val (v_bool_neq ty4 rfl rfl) rfl rfl ?_)
          refine g_step rfl (s_val (v_pick_f rfl rfl) rfl rfl ?_)
          refine g_nil ?_
          refine g_next hK5 ?_
          first | refine g_keep [0, 2, 41] [] [] (keep_cons rfl (keep_cons rfl (keep_cons rfl keep_nil))) lkeep_nil keep_nil rfl ?_ | refine g_keep [0, 2, 41] [] [] rfl rfl rfl rfl ?_
          refine g_cond rfl (fun hc41 => ?_) (fun hc41 => ?_)
          · exfalso; (try simp only [decide_eq_true_eq, decide_eq_false_iff_not, Bool.not_eq_true', Bool.not_eq_false', Bool.not_eq_eq_eq_not, Bool.not_true, Bool.not_false, Bool.and_eq_true, Bool.or_eq_true, Bool.or_eq_false_iff, beq_iff_eq, beq_eq_false_iff_ne, ne_eq, Int.not_lt, Int.not_le, Decidable.not_not] at hc41); first | omega | (simp_all; done) | (simp_all; omega) | (revert hc41; simp; omega)
          · try simp only [decide_eq_true_eq, decide_eq_false_iff_not, Bool.not_eq_true', Bool.not_eq_false', Bool.not_eq_eq_eq_not, Bool.not_true, Bool.not_false, Bool.and_eq_true, Bool.or_eq_true, Bool.or_eq_false_iff, beq_iff_eq, beq_eq_false_iff_ne, ne_eq, Int.not_lt, Int.not_le, Decidable.not_not] at hc41
            refine g_skip ?_
            refine g_next hK4 ?_
            refine g_seq (fun K91 hK91 => ?_)
            refine g_cond rfl (fun h => by cases h) (fun _ => ?_)
            refine g_skip ?_
            refine g_next hK91 ?_
            refine g_seq (fun K92 hK92 => ?_)
            refine g_region ?_
            refine g_step rfl (s_lit ty36 ty9 rfl rfl rfl rfl rfl rfl rfl ?_)
            refine g_step rfl (s_val (v_assign rfl) rfl rfl ?_)
            refine g_nil ?_
            refine g_next hK92 ?_
            refine g_seq (fun K93 hK93 => ?_)
            refine g_region ?_
            refine g_step rfl (s_val (v_assign rfl) rfl rfl ?_)
            refine g_nil ?_
            refine g_next hK93 ?_
            refine g_seq (fun K94 hK94 => ?_)
            refine g_seq (fun K95 hK95 => ?_)
            refine g_region ?_
            refine g_step rfl (s_val (v_assign rfl) rfl rfl ?_)
            refine g_nil ?_
            refine g_next hK95 ?_
            refine g_block ?_
            first | refine g_keep [0, 2, 7, 8, 9] [] [] (keep_cons rfl (keep_cons rfl (keep_cons rfl (keep_cons rfl (keep_cons rfl keep_nil))))) lkeep_nil keep_nil rfl ?_ | refine g_keep [0, 2, 7, 8, 9] [] [] rfl rfl rfl rfl ?_
            refine g_loop (fun n env L B G => ∃ (k : Nat) (u : Int), k ≤ 10 ∧ n = 10 - k ∧ env = [(0, .int .i64 kd), (2, .str s), (7, .imm (kNames.map .str)), (8, .int .i64 u), (9, .int .i64 (k : Int))] ∧ L = [] ∧ B = [] ∧ H = G ∧ lastI (kNames.drop k) (k : Int) s u = kOf s) (10 - 1) ⟨1, 0, (by decide), rfl, rfl, rfl, rfl, rfl, kLast s⟩ (fun n env L B G hI => ?_)
            obtain ⟨k, u, hk, rfl, rfl, rfl, rfl, rfl, hc⟩ := hI
            refine g_seq (fun K96 hK96 => ?_)
            refine g_seq (fun K97 hK97 => ?_)
            refine g_region ?_
            refine g_step rfl (s_val (v_move rfl) rfl rfl ?_)
            refine g_step rfl (s_val (v_lss rfl rfl) rfl rfl ?_)
            refine g_nil ?_
            refine g_next hK97 ?_
            refine g_cond rfl (fun hc44 => ?_) (fun hc44 => ?_)
            · try simp only [decide_eq_true_eq, decide_eq_false_iff_not, Bool.not_eq_true', Bool.not_eq_false', Bool.not_eq_eq_eq_not, Bool.not_true, Bool.not_false, Bool.and_eq_true, Bool.or_eq_true, Bool.or_eq_false_iff, beq_iff_eq, beq_eq_false_iff_ne, ne_eq, Int.not_lt, Int.not_le, Decidable.not_not] at hc44
              obtain ⟨x, hx⟩ := get_some (l := kNames) (k := k) (by show k < 10; omega)
              refine g_skip ?_
              refine g_next hK96 ?_
              refine g_seq (fun K98 hK98 => ?_)
              refine g_block ?_
              refine g_seq (fun K99 hK99 => ?_)
              refine g_region ?_
              refine g_step rfl (s_val (v_move rfl) rfl rfl ?_)
              refine g_step rfl (s_val (v_move rfl) rfl rfl ?_)
              refine g_step rfl (s_val (v_indexAddr ty36 ty9 rfl rfl (by first | rfl | assumption) (by first | rfl | exact (rfl : (0 : Int) = ((0 : Nat) : Int)) | exact (Int.toNat_of_nonneg (by omega)).symm) (by first | assumption | exact map_get (by assumption) | rfl) rfl) rfl rfl ?_)
              refine g_step rfl (s_val (by first | exact v_load ty9 rfl rfl (by first | rfl | assumption) (by first | assumption | exact map_get (by assumption) | rfl) rfl | exact v_load_box ty9 rfl rfl (by assumption) rfl) rfl rfl ?_)
              refine g_step rfl (s_val (v_move rfl) rfl rfl ?_)
              refine g_step rfl (s_val (v_seq rfl rfl) rfl rfl ?_)
              refine g_nil ?_
              refine g_next hK99 ?_
              refine g_cond rfl (fun hc52 => ?_) (fun hc52 => ?_)
              · try simp only [decide_eq_true_eq, decide_eq_false_iff_not, Bool.not_eq_true', Bool.not_eq_false', Bool.not_eq_eq_eq_not, Bool.not_true, Bool.not_false, Bool.and_eq_true, Bool.or_eq_true, Bool.or_eq_false_iff, beq_iff_eq, beq_eq_false_iff_ne, ne_eq, Int.not_lt, Int.not_le, Decidable.not_not] at hc52
                refine g_region ?_
                refine g_step rfl (s_val (v_move rfl) rfl rfl ?_)
                refine g_step rfl (s_val (v_assign rfl) rfl rfl ?_)
                refine g_nil ?_
                refine g_block_normal ?_
                refine g_next hK98 ?_
                refine g_region ?_
                refine g_step rfl (s_val (v_move rfl) rfl rfl ?_)
                refine g_step rfl (s_val (v_add rfl rfl (by omega)) rfl rfl ?_)
                refine g_step rfl (s_val (v_assign rfl) rfl rfl ?_)
                refine g_nil ?_
                first | refine g_keep [0, 2, 7, 8, 9] [] [] (keep_cons rfl (keep_cons rfl (keep_cons rfl (keep_cons rfl (keep_cons rfl keep_nil))))) lkeep_nil keep_nil rfl ?_ | refine g_keep [0, 2, 7, 8, 9] [] [] rfl rfl rfl rfl ?_
                exact g_round _ (by omega) ⟨k + 1, _, by omega, rfl, rfl, rfl, rfl, rfl, by rw [drop_cons hx, lastI] at hc; first | (rw [if_pos hc52] at hc; exact hc) | (rw [if_neg hc52] at hc; exact hc)⟩
              · try simp only [decide_eq_true_eq, decide_eq_false_iff_not, Bool.not_eq_true', Bool.not_eq_false', Bool.not_eq_eq_eq_not, Bool.not_true, Bool.not_false, Bool.and_eq_true, Bool.or_eq_true, Bool.or_eq_false_iff, beq_iff_eq, beq_eq_false_iff_ne, ne_eq, Int.not_lt, Int.not_le, Decidable.not_not] at hc52
                refine g_skip ?_
                refine g_block_normal ?_
                refine g_next hK98 ?_
                refine g_region ?_
                refine g_step rfl (s_val (v_move rfl) rfl rfl ?_)
                refine g_step rfl (s_val (v_add rfl rfl (by omega)) rfl rfl ?_)
                refine g_step rfl (s_val (v_assign rfl) rfl rfl ?_)
                refine g_nil ?_
                first | refine g_keep [0, 2, 7, 8, 9] [] [] (keep_cons rfl (keep_cons rfl (keep_cons rfl (keep_cons rfl (keep_cons rfl keep_nil))))) lkeep_nil keep_nil rfl ?_ | refine g_keep [0, 2, 7, 8, 9] [] [] rfl rfl rfl rfl ?_
                exact g_round _ (by omega) ⟨k + 1, _, by omega, rfl, rfl, rfl, rfl, rfl, by rw [drop_cons hx, lastI] at hc; first | (rw [if_pos hc52] at hc; exact hc) | (rw [if_neg hc52] at hc; exact hc)⟩
            · try simp only [decide_eq_true_eq, decide_eq_false_iff_not, Bool.not_eq_true', Bool.not_eq_false', Bool.not_eq_eq_eq_not, Bool.not_true, Bool.not_false, Bool.and_eq_true, Bool.or_eq_true, Bool.or_eq_false_iff, beq_iff_eq, beq_eq_false_iff_ne, ne_eq, Int.not_lt, Int.not_le, Decidable.not_not] at hc44
              obtain rfl : k = 10 := by omega
              obtain rfl : u = kOf s := hc
              refine g_exit ?_
              refine g_then_exit ?_
              refine g_then_exit ?_
              refine g_block_same ?_
              refine g_next hK94 ?_
              refine g_seq (fun K100 hK100 => ?_)
              refine g_region ?_
              refine g_step rfl (s_val (v_move rfl) rfl rfl ?_)
              refine g_step rfl (s_callp rfl rfl rfl (mkind_ok s _) ?_)
              rintro _ rfl
              refine g_step rfl (s_val (v_move rfl) rfl rfl ?_)
              refine g_step rfl (s_val (v_extract rfl rfl) rfl rfl ?_)
              refine g_step rfl (s_val (v_extract rfl rfl) rfl rfl ?_)
              refine g_step rfl (s_val (v_assign rfl) rfl rfl ?_)
              refine g_step rfl (s_val (v_assign rfl) rfl rfl ?_)
              refine g_nil ?_
              refine g_next hK100 ?_
              refine g_seq (fun K101 hK101 => ?_)
              refine g_seq (fun K102 hK102 => ?_)
              refine g_region ?_
              refine g_step rfl (s_val (v_move rfl) rfl rfl ?_)
              refine g_step rfl (s_val (v_move rfl) rfl rfl ?_)
              refine g_step rfl (s_val (v_neq rfl rfl) rfl rfl ?_)
              refine g_step rfl (s_val (v_move rfl) rfl rfl ?_)
              refine g_split 62 rfl (fun hg62 => ?_) (fun hg62 => ?_)
              · exfalso; (try simp only [decide_eq_true_eq, decide_eq_false_iff_not, Bool.not_eq_true', Bool.not_eq_false', Bool.not_eq_eq_eq_not, Bool.not_true, Bool.not_false, Bool.and_eq_true, Bool.or_eq_true, Bool.or_eq_false_iff, beq_iff_eq, beq_eq_false_iff_ne, ne_eq, Int.not_lt, Int.not_le, Decidable.not_not] at hg62); first | exact hg62 rfl | (simp at hg62; done) | simp_all
              · try simp only [decide_eq_true_eq, decide_eq_false_iff_not, Bool.not_eq_true', Bool.not_eq_false', Bool.not_eq_eq_eq_not, Bool.not_true, Bool.not_false, Bool.and_eq_true, Bool.or_eq_true, Bool.or_eq_false_iff, beq_iff_eq, beq_eq_false_iff_ne, ne_eq, Int.not_lt, Int.not_le, Decidable.not_not] at hg62
                refine g_step_yes (j := 3) (t := 62) rfl rfl rfl rfl (s_val (v_move rfl) rfl rfl ?_)
                refine g_step_yes (j := 3) (t := 62) rfl rfl rfl rfl (s_val (v_move rfl) rfl rfl ?_)
                refine g_step_yes (j := 3) (t := 62) rfl rfl rfl rfl (s_val (v_gtr rfl rfl) rfl rfl ?_)
                refine g_step_yes (j := 3) (t := 62) rfl rfl rfl rfl (s_val (v_bool_neq ty4 rfl rfl) rfl rfl ?_)
                refine g_step rfl (s_val (v_pick_f rfl rfl) rfl rfl ?_)
                refine g_nil ?_
                refine g_next hK102 ?_
                refine g_cond rfl (fun hc67 => ?_) (fun hc67 => ?_)
                · exfalso; (try simp only [decide_eq_true_eq, decide_eq_false_iff_not, Bool.not_eq_true', Bool.not_eq_false', Bool.not_eq_eq_eq_not, Bool.not_true, Bool.not_false, Bool.and_eq_true, Bool.or_eq_true, Bool.or_eq_false_iff, beq_iff_eq, beq_eq_false_iff_ne, ne_eq, Int.not_lt, Int.not_le, Decidable.not_not] at hc67); first | exact hc67 rfl | exact hc67 | (simp at hc67; done) | (revert hc67; simp; done) | simp_all
                · try simp only [decide_eq_true_eq, decide_eq_false_iff_not, Bool.not_eq_true', Bool.not_eq_false', Bool.not_eq_eq_eq_not, Bool.not_true, Bool.not_false, Bool.and_eq_true, Bool.or_eq_true, Bool.or_eq_false_iff, beq_iff_eq, beq_eq_false_iff_ne, ne_eq, Int.not_lt, Int.not_le, Decidable.not_not] at hc67
                  refine g_skip ?_
                  refine g_next hK101 ?_
                  refine g_seq (fun K103 hK103 => ?_)
                  refine g_seq (fun K104 hK104 => ?_)
                  refine g_region ?_
                  refine g_step rfl (s_val (v_move rfl) rfl rfl ?_)
                  refine g_step rfl (s_val (v_lss rfl rfl) rfl rfl ?_)
                  refine g_step rfl (s_val (v_move rfl) rfl rfl ?_)
                  refine g_split 70 rfl (fun hg70 => ?_) (fun hg70 => ?_)
                  · try simp only [decide_eq_true_eq, decide_eq_false_iff_not, Bool.not_eq_true', Bool.not_eq_false', Bool.not_eq_eq_eq_not, Bool.not_true, Bool.not_false, Bool.and_eq_true, Bool.or_eq_true, Bool.or_eq_false_iff, beq_iff_eq, beq_eq_false_iff_ne, ne_eq, Int.not_lt, Int.not_le, Decidable.not_not] at hg70
                    refine g_step_no (j := 2) (t := 70) rfl rfl rfl rfl rfl rfl rfl ?_
                    refine g_step_no (j := 2) (t := 70) rfl rfl rfl rfl rfl rfl rfl ?_
                    refine g_step rfl (s_val (v_pick_t rfl rfl) rfl rfl ?_)
                    refine g_nil ?_
                    refine g_next hK104 ?_
                    first | refine g_keep [0, 7, 73] [] [] (keep_cons rfl (keep_cons rfl (keep_cons rfl keep_nil))) lkeep_nil keep_nil rfl ?_ | refine g_keep [0, 7, 73] [] [] rfl rfl rfl rfl ?_
                    refine g_cond rfl (fun _ => ?_) (fun h => by cases h)
                    refine g_seq (fun K105 hK105 => ?_)
                    refine g_region ?_
                    refine g_step rfl (s_val (v_move rfl) rfl rfl ?_)
                    refine g_step rfl (s_callp rfl rfl rfl (mname_ok kd _) ?_)
                    rintro _ rfl
                    refine g_step rfl (s_val (v_seq rfl rfl) rfl rfl ?_)
                    refine g_step rfl (s_val (v_move rfl) rfl rfl ?_)
                    refine g_split 77 rfl (fun hg77 => ?_) (fun hg77 => ?_)
                    · try simp only [decide_eq_true_eq, decide_eq_false_iff_not, Bool.not_eq_true', Bool.not_eq_false', Bool.not_eq_eq_eq_not, Bool.not_true, Bool.not_false, Bool.and_eq_true, Bool.or_eq_true, Bool.or_eq_false_iff, beq_iff_eq, beq_eq_false_iff_ne, ne_eq, Int.not_lt, Int.not_le, Decidable.not_not] at hg77
                      refine g_step_yes (j := 3) (t := 77) rfl rfl rfl rfl (s_callp rfl rfl rfl (awake10_ok _) ?_)
                      rintro _ rfl
                      refine g_step rfl (s_val (v_pick_t rfl rfl) rfl rfl ?_)
                      refine g_step rfl (s_val (v_assign rfl) rfl rfl ?_)
                      refine g_nil ?_
                      refine g_next hK105 ?_
                      refine g_ret ?_
                      refine g_then_ret ?_
                      refine g_end1 (.inl rfl) Try.results4 (.tmp rfl) [] (ASub.refl _) (AHeap.sub_refl _) (fun p hp => by cases hp) ⟨rfl, ?_⟩
                      rfl
                    · exfalso; (try simp only [decide_eq_true_eq, decide_eq_false_iff_not, Bool.not_eq_true', Bool.not_eq_false', Bool.not_eq_eq_eq_not, Bool.not_true, Bool.not_false, Bool.and_eq_true, Bool.or_eq_true, Bool.or_eq_false_iff, beq_iff_eq, beq_eq_false_iff_ne, ne_eq, Int.not_lt, Int.not_le, Decidable.not_not] at hg77); rw [show kName kd = ⟨#[]⟩ from if_pos (by omega)] at hg77; simp at hg77
                  · try simp only [decide_eq_true_eq, decide_eq_false_iff_not, Bool.not_eq_true', Bool.not_eq_false', Bool.not_eq_eq_eq_not, Bool.not_true, Bool.not_false, Bool.and_eq_true, Bool.or_eq_true, Bool.or_eq_false_iff, beq_iff_eq, beq_eq_false_iff_ne, ne_eq, Int.not_lt, Int.not_le, Decidable.not_not] at hg70
                    refine g_step_yes (j := 2) (t := 70) rfl rfl rfl rfl (s_val (v_move rfl) rfl rfl ?_)
                    refine g_step_yes (j := 2) (t := 70) rfl rfl rfl rfl (s_val (v_gtr rfl rfl) rfl rfl ?_)
                    refine g_step rfl (s_val (v_pick_f rfl rfl) rfl rfl ?_)
                    refine g_nil ?_
                    refine g_next hK104 ?_
                    first | refine g_keep [0, 7, 73] [] [] (keep_cons rfl (keep_cons rfl (keep_cons rfl keep_nil))) lkeep_nil keep_nil rfl ?_ | refine g_keep [0, 7, 73] [] [] rfl rfl rfl rfl ?_
                    refine g_cond rfl (fun hc73 => ?_) (fun hc73 => ?_)
                    · try simp only [decide_eq_true_eq, decide_eq_false_iff_not, Bool.not_eq_true', Bool.not_eq_false', Bool.not_eq_eq_eq_not, Bool.not_true, Bool.not_false, Bool.and_eq_true, Bool.or_eq_true, Bool.or_eq_false_iff, beq_iff_eq, beq_eq_false_iff_ne, ne_eq, Int.not_lt, Int.not_le, Decidable.not_not] at hc73
                      refine g_seq (fun K106 hK106 => ?_)
                      refine g_region ?_
                      refine g_step rfl (s_val (v_move rfl) rfl rfl ?_)
                      refine g_step rfl (s_callp rfl rfl rfl (mname_ok kd _) ?_)
                      rintro _ rfl
                      refine g_step rfl (s_val (v_seq rfl rfl) rfl rfl ?_)
                      refine g_step rfl (s_val (v_move rfl) rfl rfl ?_)
                      refine g_split 77 rfl (fun hg77 => ?_) (fun hg77 => ?_)
                      · try simp only [decide_eq_true_eq, decide_eq_false_iff_not, Bool.not_eq_true', Bool.not_eq_false', Bool.not_eq_eq_eq_not, Bool.not_true, Bool.not_false, Bool.and_eq_true, Bool.or_eq_true, Bool.or_eq_false_iff, beq_iff_eq, beq_eq_false_iff_ne, ne_eq, Int.not_lt, Int.not_le, Decidable.not_not] at hg77
                        refine g_step_yes (j := 3) (t := 77) rfl rfl rfl rfl (s_callp rfl rfl rfl (awake10_ok _) ?_)
                        rintro _ rfl
                        refine g_step rfl (s_val (v_pick_t rfl rfl) rfl rfl ?_)
                        refine g_step rfl (s_val (v_assign rfl) rfl rfl ?_)
                        refine g_nil ?_
                        refine g_next hK106 ?_
                        refine g_ret ?_
                        refine g_then_ret ?_
                        refine g_end1 (.inl rfl) Try.results4 (.tmp rfl) [] (ASub.refl _) (AHeap.sub_refl _) (fun p hp => by cases hp) ⟨rfl, ?_⟩
                        rfl
                      · exfalso; (try simp only [decide_eq_true_eq, decide_eq_false_iff_not, Bool.not_eq_true', Bool.not_eq_false', Bool.not_eq_eq_eq_not, Bool.not_true, Bool.not_false, Bool.and_eq_true, Bool.or_eq_true, Bool.or_eq_false_iff, beq_iff_eq, beq_eq_false_iff_ne, ne_eq, Int.not_lt, Int.not_le, Decidable.not_not] at hg77); rw [show kName kd = ⟨#[]⟩ from if_pos (by omega)] at hg77; simp at hg77
                    · try simp only [decide_eq_true_eq, decide_eq_false_iff_not, Bool.not_eq_true', Bool.not_eq_false', Bool.not_eq_eq_eq_not, Bool.not_true, Bool.not_false, Bool.and_eq_true, Bool.or_eq_true, Bool.or_eq_false_iff, beq_iff_eq, beq_eq_false_iff_ne, ne_eq, Int.not_lt, Int.not_le, Decidable.not_not] at hc73
                      refine g_skip ?_
                      refine g_next hK103 ?_
                      refine g_seq (fun K107 hK107 => ?_)
                      refine g_draw (n := 11) (fun j => !([] : List Nat).contains j) rfl rfl ?_
                      refine m_take 0 false rfl rfl (by kernel_rfl) (by kernel_rfl) (by kernel_rfl) (fun _ _ _ _ h => h) (v_move rfl) rfl rfl ?_
                      refine m_take 2 false rfl rfl (by kernel_rfl) (by kernel_rfl) (by kernel_rfl) (fun _ _ _ _ h => h) (v_move rfl) rfl rfl ?_
                      refine m_take 3 false rfl rfl (by kernel_rfl) (by kernel_rfl) (by kernel_rfl) (fun _ _ _ _ h => h) (v_move rfl) rfl rfl ?_
                      refine m_take 4 false rfl rfl (by kernel_rfl) (by kernel_rfl) (by kernel_rfl) (fun _ _ _ _ h => h) (v_indexAddr ty36 ty9 rfl rfl (by first | rfl | assumption) (Int.toNat_of_nonneg (by omega)).symm (map_get (kName_get (k := kd) (by omega))) rfl) rfl rfl ?_
                      refine m_take 5 true rfl rfl (by kernel_rfl) (by kernel_rfl) (by kernel_rfl) (fun _ _ _ _ h => h) (by first | exact v_load ty9 rfl rfl (by first | rfl | assumption) (map_get (kName_get (k := kd) (by omega))) rfl | exact v_load_box ty9 rfl rfl (by assumption) rfl) rfl rfl ?_
                      refine m_one 1 (by kernel_rfl) rfl rfl ?_
                      refine sm_callp rfl rfl rfl (mname_ok kd _) ?_
                      rintro _ rfl
                      refine m_take 6 false rfl rfl (by kernel_rfl) (by kernel_rfl) (by kernel_rfl) (fun _ _ _ _ h => h) (v_seq rfl rfl) rfl rfl ?_
                      refine m_take 7 false rfl rfl (by kernel_rfl) (by kernel_rfl) (by kernel_rfl) (fun _ _ _ _ h => h) (v_move rfl) rfl rfl ?_
                      refine m_split 87 rfl (fun hg87 => ?_) (fun hg87 => ?_)
                      · try simp only [decide_eq_true_eq, decide_eq_false_iff_not, Bool.not_eq_true', Bool.not_eq_false', Bool.not_eq_eq_eq_not, Bool.not_true, Bool.not_false, Bool.and_eq_true, Bool.or_eq_true, Bool.or_eq_false_iff, beq_iff_eq, beq_eq_false_iff_ne, ne_eq, Int.not_lt, Int.not_le, Decidable.not_not] at hg87
                        refine m_one_yes (j := 7) (t := 87) 8 (by kernel_rfl) rfl rfl rfl rfl rfl ?_
                        refine sm_callp rfl rfl rfl (awake10_ok _) ?_
                        rintro _ rfl
                        refine m_take 9 false rfl rfl (by kernel_rfl) (by kernel_rfl) (by kernel_rfl) (fun _ _ _ _ h => h) (v_pick_t rfl rfl) rfl rfl ?_
                        refine m_take 10 false rfl rfl (by kernel_rfl) (by kernel_rfl) (by kernel_rfl) (fun _ _ _ _ h => h) (v_assign rfl) rfl rfl ?_
                        refine m_done (by kernel_rfl) ?_
                        refine g_next hK107 ?_
                        refine g_ret ?_
                        refine g_end1 (.inl rfl) Try.results4 (.tmp rfl) [] (ASub.refl _) (AHeap.sub_refl _) (fun p hp => by cases hp) ⟨rfl, ?_⟩
                        rfl
                      · exfalso; (try simp only [decide_eq_true_eq, decide_eq_false_iff_not, Bool.not_eq_true', Bool.not_eq_false', Bool.not_eq_eq_eq_not, Bool.not_true, Bool.not_false, Bool.and_eq_true, Bool.or_eq_true, Bool.or_eq_false_iff, beq_iff_eq, beq_eq_false_iff_ne, ne_eq, Int.not_lt, Int.not_le, Decidable.not_not] at hg87); first | exact hg87 rfl | exact hg87 | simp_all

end Go.Proofs.Ytnkcofpkmnohkaa

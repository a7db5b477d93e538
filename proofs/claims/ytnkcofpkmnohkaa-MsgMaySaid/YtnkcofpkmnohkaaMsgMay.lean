import Derived.Test.YtnkcofpkmnohkaaMsgAwake
set_option maxHeartbeats 8000000
set_option linter.unusedSimpArgs false
set_option linter.unusedVariables false
set_option maxRecDepth 100000
namespace Go.Proofs.Ytnkcofpkmnohkaa
open Go Go.Proofs.Ytnkcofpkmnohkaa.AM
theorem may10_ok (m : Mg) (G : AHeap) (hl : m.recs.length ≤ 100000) (hs : ∀ x ∈ m.recs, Small x.bag) : PCalls Try.prog 37 [encM m] G (fun r => r = .bool (mvalid m)) := by
  refine LCalls.intro 179 fi37 rfl Try.ntmps37 rfl (fun _ h => h.elim) (fun H hH w0 hw0 => ?_)
  refine g_seq (fun K0 hK0 => ?_)
  refine g_region ?_
  refine g_step rfl (s_box rfl rfl rfl rfl ?_)
  refine g_step rfl (s_val (v_assign rfl) rfl rfl ?_)
  refine g_nil ?_
  refine g_next hK0 ?_
  refine g_cut (fun env L B G => env = [] ∧ L = [(1, 1, 0)] ∧ B = [(1, encM m)] ∧ H = G ∧ spValid m.sp = true ∧ ((1 ≤ m.kind ∧ m.kind ≤ 9 ∧ 0 ≤ m.frm ∧ m.frm ≤ 4095 ∧ 0 ≤ m.inc ∧ m.inc ≤ 281474976710655))) ?_ (fun env L B G hI => ?_)
  · skip
    refine g_seq (fun K1 hK1 => ?_)
    refine g_region ?_
    refine g_step rfl (s_fieldAddr ty30 fo30_0 ty3 rfl rfl ?_)
    refine g_step rfl (s_val (v_loadl ty3 rfl rfl rfl rfl) rfl rfl ?_)
    refine g_step rfl (s_val (v_lss rfl rfl) rfl rfl ?_)
    refine g_step rfl (s_val (v_move rfl) rfl rfl ?_)
    refine g_split 6 rfl (fun hg6 => ?_) (fun hg6 => ?_)
    · try simp only [decide_eq_true_eq, decide_eq_false_iff_not, Bool.not_eq_true', Bool.not_eq_false', Bool.not_eq_eq_eq_not, Bool.not_true, Bool.not_false, Bool.and_eq_true, Bool.or_eq_true, Bool.or_eq_false_iff, beq_iff_eq, beq_eq_false_iff_ne, ne_eq, Int.not_lt, Int.not_le, Decidable.not_not] at hg6
      refine g_step_no (j := 3) (t := 6) rfl rfl rfl rfl rfl rfl rfl ?_
      refine g_step_no (j := 3) (t := 6) rfl rfl rfl rfl rfl rfl rfl ?_
      refine g_step_no (j := 3) (t := 6) rfl rfl rfl rfl rfl rfl rfl ?_
      refine g_step rfl (s_val (v_pick_t rfl rfl) rfl rfl ?_)
      refine g_step rfl (s_val (v_move rfl) rfl rfl ?_)
      refine g_step_no (j := 8) (t := 11) rfl rfl rfl rfl rfl rfl rfl ?_
      refine g_step_no (j := 8) (t := 11) rfl rfl rfl rfl rfl rfl rfl ?_
      refine g_step_no (j := 8) (t := 11) rfl rfl rfl rfl rfl rfl rfl ?_
      refine g_step rfl (s_val (v_pick_t rfl rfl) rfl rfl ?_)
      refine g_step rfl (s_val (v_move rfl) rfl rfl ?_)
      refine g_step_no (j := 13) (t := 16) rfl rfl rfl rfl rfl rfl rfl ?_
      refine g_step_no (j := 13) (t := 16) rfl rfl rfl rfl rfl rfl rfl ?_
      refine g_step_no (j := 13) (t := 16) rfl rfl rfl rfl rfl rfl rfl ?_
      refine g_step rfl (s_val (v_pick_t rfl rfl) rfl rfl ?_)
      refine g_step rfl (s_val (v_move rfl) rfl rfl ?_)
      refine g_step_no (j := 18) (t := 21) rfl rfl rfl rfl rfl rfl rfl ?_
      refine g_step_no (j := 18) (t := 21) rfl rfl rfl rfl rfl rfl rfl ?_
      refine g_step_no (j := 18) (t := 21) rfl rfl rfl rfl rfl rfl rfl ?_
      refine g_step rfl (s_val (v_pick_t rfl rfl) rfl rfl ?_)
      refine g_step rfl (s_val (v_move rfl) rfl rfl ?_)
      refine g_step_no (j := 23) (t := 26) rfl rfl rfl rfl rfl rfl rfl ?_
      refine g_step_no (j := 23) (t := 26) rfl rfl rfl rfl rfl rfl rfl ?_
      refine g_step_no (j := 23) (t := 26) rfl rfl rfl rfl rfl rfl rfl ?_
      refine g_step rfl (s_val (v_pick_t rfl rfl) rfl rfl ?_)
      refine g_step rfl (s_val (v_move rfl) rfl rfl ?_)
      refine g_step_no (j := 28) (t := 31) rfl rfl rfl rfl rfl rfl rfl ?_
      refine g_step_no (j := 28) (t := 31) rfl rfl rfl rfl rfl rfl rfl ?_
      refine g_step_no (j := 28) (t := 31) rfl rfl rfl rfl rfl rfl rfl ?_
      refine g_step_no (j := 28) (t := 31) rfl rfl rfl rfl rfl rfl rfl ?_
      refine g_step rfl (s_val (v_pick_t rfl rfl) rfl rfl ?_)
      refine g_nil ?_
      refine g_next hK1 ?_
      first | refine g_keep [36] [1] [1] (keep_cons rfl keep_nil) (lkeep_cons rfl lkeep_nil) (keep_cons rfl keep_nil) rfl ?_ | refine g_keep [36] [1] [1] rfl rfl rfl rfl ?_
      refine g_cond rfl (fun _ => ?_) (fun h => by cases h)
      refine g_seq (fun K2 hK2 => ?_)
      refine g_region ?_
      refine g_step rfl (s_val (v_assign rfl) rfl rfl ?_)
      refine g_nil ?_
      refine g_next hK2 ?_
      refine g_ret ?_
      refine g_then_ret ?_
      refine g_end1 (.inl rfl) Try.results37 (.tmp rfl) [] (ASub.refl _) (AHeap.sub_refl _) (fun p hp => by cases hp) ⟨rfl, ?_⟩
      first | (rw [mvalid_eq]; first | (rw [show spValid m.sp = false by assumption]; rfl) | (rw [decide_eq_false (p := ValidP m) (by unfold ValidP; (try unfold LivesP at *); omega), Bool.false_and, Bool.and_false]; rfl); done) | (rw [mvalid_eq]; first | (rw [show spValid m.sp = false by assumption]; rfl) | (rw [decide_eq_false (p := ValidP m) (by unfold ValidP; (try unfold LivesP at *); omega), Bool.false_and, Bool.and_false]; rfl); rfl)
    · try simp only [decide_eq_true_eq, decide_eq_false_iff_not, Bool.not_eq_true', Bool.not_eq_false', Bool.not_eq_eq_eq_not, Bool.not_true, Bool.not_false, Bool.and_eq_true, Bool.or_eq_true, Bool.or_eq_false_iff, beq_iff_eq, beq_eq_false_iff_ne, ne_eq, Int.not_lt, Int.not_le, Decidable.not_not] at hg6
      refine g_step_yes (j := 3) (t := 6) rfl rfl rfl rfl (s_fieldAddr ty30 fo30_0 ty3 rfl rfl ?_)
      refine g_step_yes (j := 3) (t := 6) rfl rfl rfl rfl (s_val (v_loadl ty3 rfl rfl rfl rfl) rfl rfl ?_)
      refine g_step_yes (j := 3) (t := 6) rfl rfl rfl rfl (s_val (v_gtr rfl rfl) rfl rfl ?_)
      refine g_step rfl (s_val (v_pick_f rfl rfl) rfl rfl ?_)
      refine g_step rfl (s_val (v_move rfl) rfl rfl ?_)
      refine g_split 11 rfl (fun hg11 => ?_) (fun hg11 => ?_)
      · try simp only [decide_eq_true_eq, decide_eq_false_iff_not, Bool.not_eq_true', Bool.not_eq_false', Bool.not_eq_eq_eq_not, Bool.not_true, Bool.not_false, Bool.and_eq_true, Bool.or_eq_true, Bool.or_eq_false_iff, beq_iff_eq, beq_eq_false_iff_ne, ne_eq, Int.not_lt, Int.not_le, Decidable.not_not] at hg11
        refine g_step_no (j := 8) (t := 11) rfl rfl rfl rfl rfl rfl rfl ?_
        refine g_step_no (j := 8) (t := 11) rfl rfl rfl rfl rfl rfl rfl ?_
        refine g_step_no (j := 8) (t := 11) rfl rfl rfl rfl rfl rfl rfl ?_
        refine g_step rfl (s_val (v_pick_t rfl rfl) rfl rfl ?_)
        refine g_step rfl (s_val (v_move rfl) rfl rfl ?_)
        refine g_step_no (j := 13) (t := 16) rfl rfl rfl rfl rfl rfl rfl ?_
        refine g_step_no (j := 13) (t := 16) rfl rfl rfl rfl rfl rfl rfl ?_
        refine g_step_no (j := 13) (t := 16) rfl rfl rfl rfl rfl rfl rfl ?_
        refine g_step rfl (s_val (v_pick_t rfl rfl) rfl rfl ?_)
        refine g_step rfl (s_val (v_move rfl) rfl rfl ?_)
        refine g_step_no (j := 18) (t := 21) rfl rfl rfl rfl rfl rfl rfl ?_
        refine g_step_no (j := 18) (t := 21) rfl rfl rfl rfl rfl rfl rfl ?_
        refine g_step_no (j := 18) (t := 21) rfl rfl rfl rfl rfl rfl rfl ?_
        refine g_step rfl (s_val (v_pick_t rfl rfl) rfl rfl ?_)
        refine g_step rfl (s_val (v_move rfl) rfl rfl ?_)
        refine g_step_no (j := 23) (t := 26) rfl rfl rfl rfl rfl rfl rfl ?_
        refine g_step_no (j := 23) (t := 26) rfl rfl rfl rfl rfl rfl rfl ?_
        refine g_step_no (j := 23) (t := 26) rfl rfl rfl rfl rfl rfl rfl ?_
        refine g_step rfl (s_val (v_pick_t rfl rfl) rfl rfl ?_)
        refine g_step rfl (s_val (v_move rfl) rfl rfl ?_)
        refine g_step_no (j := 28) (t := 31) rfl rfl rfl rfl rfl rfl rfl ?_
        refine g_step_no (j := 28) (t := 31) rfl rfl rfl rfl rfl rfl rfl ?_
        refine g_step_no (j := 28) (t := 31) rfl rfl rfl rfl rfl rfl rfl ?_
        refine g_step_no (j := 28) (t := 31) rfl rfl rfl rfl rfl rfl rfl ?_
        refine g_step rfl (s_val (v_pick_t rfl rfl) rfl rfl ?_)
        refine g_nil ?_
        refine g_next hK1 ?_
        first | refine g_keep [36] [1] [1] (keep_cons rfl keep_nil) (lkeep_cons rfl lkeep_nil) (keep_cons rfl keep_nil) rfl ?_ | refine g_keep [36] [1] [1] rfl rfl rfl rfl ?_
        refine g_cond rfl (fun _ => ?_) (fun h => by cases h)
        refine g_seq (fun K3 hK3 => ?_)
        refine g_region ?_
        refine g_step rfl (s_val (v_assign rfl) rfl rfl ?_)
        refine g_nil ?_
        refine g_next hK3 ?_
        refine g_ret ?_
        refine g_then_ret ?_
        refine g_end1 (.inl rfl) Try.results37 (.tmp rfl) [] (ASub.refl _) (AHeap.sub_refl _) (fun p hp => by cases hp) ⟨rfl, ?_⟩
        first | (rw [mvalid_eq]; first | (rw [show spValid m.sp = false by assumption]; rfl) | (rw [decide_eq_false (p := ValidP m) (by unfold ValidP; (try unfold LivesP at *); omega), Bool.false_and, Bool.and_false]; rfl); done) | (rw [mvalid_eq]; first | (rw [show spValid m.sp = false by assumption]; rfl) | (rw [decide_eq_false (p := ValidP m) (by unfold ValidP; (try unfold LivesP at *); omega), Bool.false_and, Bool.and_false]; rfl); rfl)
      · try simp only [decide_eq_true_eq, decide_eq_false_iff_not, Bool.not_eq_true', Bool.not_eq_false', Bool.not_eq_eq_eq_not, Bool.not_true, Bool.not_false, Bool.and_eq_true, Bool.or_eq_true, Bool.or_eq_false_iff, beq_iff_eq, beq_eq_false_iff_ne, ne_eq, Int.not_lt, Int.not_le, Decidable.not_not] at hg11
        refine g_step_yes (j := 8) (t := 11) rfl rfl rfl rfl (s_fieldAddr ty30 fo30_1 ty3 rfl rfl ?_)
        refine g_step_yes (j := 8) (t := 11) rfl rfl rfl rfl (s_val (v_loadl ty3 rfl rfl rfl rfl) rfl rfl ?_)
        refine g_step_yes (j := 8) (t := 11) rfl rfl rfl rfl (s_val (v_lss rfl rfl) rfl rfl ?_)
        refine g_step rfl (s_val (v_pick_f rfl rfl) rfl rfl ?_)
        refine g_step rfl (s_val (v_move rfl) rfl rfl ?_)
        refine g_split 16 rfl (fun hg16 => ?_) (fun hg16 => ?_)
        · try simp only [decide_eq_true_eq, decide_eq_false_iff_not, Bool.not_eq_true', Bool.not_eq_false', Bool.not_eq_eq_eq_not, Bool.not_true, Bool.not_false, Bool.and_eq_true, Bool.or_eq_true, Bool.or_eq_false_iff, beq_iff_eq, beq_eq_false_iff_ne, ne_eq, Int.not_lt, Int.not_le, Decidable.not_not] at hg16
          refine g_step_no (j := 13) (t := 16) rfl rfl rfl rfl rfl rfl rfl ?_
          refine g_step_no (j := 13) (t := 16) rfl rfl rfl rfl rfl rfl rfl ?_
          refine g_step_no (j := 13) (t := 16) rfl rfl rfl rfl rfl rfl rfl ?_
          refine g_step rfl (s_val (v_pick_t rfl rfl) rfl rfl ?_)
          refine g_step rfl (s_val (v_move rfl) rfl rfl ?_)
          refine g_step_no (j := 18) (t := 21) rfl rfl rfl rfl rfl rfl rfl ?_
          refine g_step_no (j := 18) (t := 21) rfl rfl rfl rfl rfl rfl rfl ?_
          refine g_step_no (j := 18) (t := 21) rfl rfl rfl rfl rfl rfl rfl ?_
          refine g_step rfl (s_val (v_pick_t rfl rfl) rfl rfl ?_)
          refine g_step rfl (s_val (v_move rfl) rfl rfl ?_)
          refine g_step_no (j := 23) (t := 26) rfl rfl rfl rfl rfl rfl rfl ?_
          refine g_step_no (j := 23) (t := 26) rfl rfl rfl rfl rfl rfl rfl ?_
          refine g_step_no (j := 23) (t := 26) rfl rfl rfl rfl rfl rfl rfl ?_
          refine g_step rfl (s_val (v_pick_t rfl rfl) rfl rfl ?_)
          refine g_step rfl (s_val (v_move rfl) rfl rfl ?_)
          refine g_step_no (j := 28) (t := 31) rfl rfl rfl rfl rfl rfl rfl ?_
          refine g_step_no (j := 28) (t := 31) rfl rfl rfl rfl rfl rfl rfl ?_
          refine g_step_no (j := 28) (t := 31) rfl rfl rfl rfl rfl rfl rfl ?_
          refine g_step_no (j := 28) (t := 31) rfl rfl rfl rfl rfl rfl rfl ?_
          refine g_step rfl (s_val (v_pick_t rfl rfl) rfl rfl ?_)
          refine g_nil ?_
          refine g_next hK1 ?_
          first | refine g_keep [36] [1] [1] (keep_cons rfl keep_nil) (lkeep_cons rfl lkeep_nil) (keep_cons rfl keep_nil) rfl ?_ | refine g_keep [36] [1] [1] rfl rfl rfl rfl ?_
          refine g_cond rfl (fun _ => ?_) (fun h => by cases h)
          refine g_seq (fun K4 hK4 => ?_)
          refine g_region ?_
          refine g_step rfl (s_val (v_assign rfl) rfl rfl ?_)
          refine g_nil ?_
          refine g_next hK4 ?_
          refine g_ret ?_
          refine g_then_ret ?_
          refine g_end1 (.inl rfl) Try.results37 (.tmp rfl) [] (ASub.refl _) (AHeap.sub_refl _) (fun p hp => by cases hp) ⟨rfl, ?_⟩
          first | (rw [mvalid_eq]; first | (rw [show spValid m.sp = false by assumption]; rfl) | (rw [decide_eq_false (p := ValidP m) (by unfold ValidP; (try unfold LivesP at *); omega), Bool.false_and, Bool.and_false]; rfl); done) | (rw [mvalid_eq]; first | (rw [show spValid m.sp = false by assumption]; rfl) | (rw [decide_eq_false (p := ValidP m) (by unfold ValidP; (try unfold LivesP at *); omega), Bool.false_and, Bool.and_false]; rfl); rfl)
        · try simp only [decide_eq_true_eq, decide_eq_false_iff_not, Bool.not_eq_true', Bool.not_eq_false', Bool.not_eq_eq_eq_not, Bool.not_true, Bool.not_false, Bool.and_eq_true, Bool.or_eq_true, Bool.or_eq_false_iff, beq_iff_eq, beq_eq_false_iff_ne, ne_eq, Int.not_lt, Int.not_le, Decidable.not_not] at hg16
          refine g_step_yes (j := 13) (t := 16) rfl rfl rfl rfl (s_fieldAddr ty30 fo30_1 ty3 rfl rfl ?_)
          refine g_step_yes (j := 13) (t := 16) rfl rfl rfl rfl (s_val (v_loadl ty3 rfl rfl rfl rfl) rfl rfl ?_)
          refine g_step_yes (j := 13) (t := 16) rfl rfl rfl rfl (s_val (v_gtr rfl rfl) rfl rfl ?_)
          refine g_step rfl (s_val (v_pick_f rfl rfl) rfl rfl ?_)
          refine g_step rfl (s_val (v_move rfl) rfl rfl ?_)
          refine g_split 21 rfl (fun hg21 => ?_) (fun hg21 => ?_)
          · try simp only [decide_eq_true_eq, decide_eq_false_iff_not, Bool.not_eq_true', Bool.not_eq_false', Bool.not_eq_eq_eq_not, Bool.not_true, Bool.not_false, Bool.and_eq_true, Bool.or_eq_true, Bool.or_eq_false_iff, beq_iff_eq, beq_eq_false_iff_ne, ne_eq, Int.not_lt, Int.not_le, Decidable.not_not] at hg21
            refine g_step_no (j := 18) (t := 21) rfl rfl rfl rfl rfl rfl rfl ?_
            refine g_step_no (j := 18) (t := 21) rfl rfl rfl rfl rfl rfl rfl ?_
            refine g_step_no (j := 18) (t := 21) rfl rfl rfl rfl rfl rfl rfl ?_
            refine g_step rfl (s_val (v_pick_t rfl rfl) rfl rfl ?_)
            refine g_step rfl (s_val (v_move rfl) rfl rfl ?_)
            refine g_step_no (j := 23) (t := 26) rfl rfl rfl rfl rfl rfl rfl ?_
            refine g_step_no (j := 23) (t := 26) rfl rfl rfl rfl rfl rfl rfl ?_
            refine g_step_no (j := 23) (t := 26) rfl rfl rfl rfl rfl rfl rfl ?_
            refine g_step rfl (s_val (v_pick_t rfl rfl) rfl rfl ?_)
            refine g_step rfl (s_val (v_move rfl) rfl rfl ?_)
            refine g_step_no (j := 28) (t := 31) rfl rfl rfl rfl rfl rfl rfl ?_
            refine g_step_no (j := 28) (t := 31) rfl rfl rfl rfl rfl rfl rfl ?_
            refine g_step_no (j := 28) (t := 31) rfl rfl rfl rfl rfl rfl rfl ?_
            refine g_step_no (j := 28) (t := 31) rfl rfl rfl rfl rfl rfl rfl ?_
            refine g_step rfl (s_val (v_pick_t rfl rfl) rfl rfl ?_)
            refine g_nil ?_
            refine g_next hK1 ?_
            first | refine g_keep [36] [1] [1] (keep_cons rfl keep_nil) (lkeep_cons rfl lkeep_nil) (keep_cons rfl keep_nil) rfl ?_ | refine g_keep [36] [1] [1] rfl rfl rfl rfl ?_
            refine g_cond rfl (fun _ => ?_) (fun h => by cases h)
            refine g_seq (fun K5 hK5 => ?_)
            refine g_region ?_
            refine g_step rfl (s_val (v_assign rfl) rfl rfl ?_)
            refine g_nil ?_
            refine g_next hK5 ?_
            refine g_ret ?_
            refine g_then_ret ?_
            refine g_end1 (.inl rfl) Try.results37 (.tmp rfl) [] (ASub.refl _) (AHeap.sub_refl _) (fun p hp => by cases hp) ⟨rfl, ?_⟩
            first | (rw [mvalid_eq]; first | (rw [show spValid m.sp = false by assumption]; rfl) | (rw [decide_eq_false (p := ValidP m) (by unfold ValidP; (try unfold LivesP at *); omega), Bool.false_and, Bool.and_false]; rfl); done) | (rw [mvalid_eq]; first | (rw [show spValid m.sp = false by assumption]; rfl) | (rw [decide_eq_false (p := ValidP m) (by unfold ValidP; (try unfold LivesP at *); omega), Bool.false_and, Bool.and_false]; rfl); rfl)
          · try simp only [decide_eq_true_eq, decide_eq_false_iff_not, Bool.not_eq_true', Bool.not_eq_false', Bool.not_eq_eq_eq_not, Bool.not_true, Bool.not_false, Bool.and_eq_true, Bool.or_eq_true, Bool.or_eq_false_iff, beq_iff_eq, beq_eq_false_iff_ne, ne_eq, Int.not_lt, Int.not_le, Decidable.not_not] at hg21
            refine g_step_yes (j := 18) (t := 21) rfl rfl rfl rfl (s_fieldAddr ty30 fo30_2 ty3 rfl rfl ?_)
            refine g_step_yes (j := 18) (t := 21) rfl rfl rfl rfl (s_val (v_loadl ty3 rfl rfl rfl rfl) rfl rfl ?_)
            refine g_step_yes (j := 18) (t := 21) rfl rfl rfl rfl (s_val (v_lss rfl rfl) rfl rfl ?_)
            refine g_step rfl (s_val (v_pick_f rfl rfl) rfl rfl ?_)
            refine g_step rfl (s_val (v_move rfl) rfl rfl ?_)
            refine g_split 26 rfl (fun hg26 => ?_) (fun hg26 => ?_)
            · try simp only [decide_eq_true_eq, decide_eq_false_iff_not, Bool.not_eq_true', Bool.not_eq_false', Bool.not_eq_eq_eq_not, Bool.not_true, Bool.not_false, Bool.and_eq_true, Bool.or_eq_true, Bool.or_eq_false_iff, beq_iff_eq, beq_eq_false_iff_ne, ne_eq, Int.not_lt, Int.not_le, Decidable.not_not] at hg26
              refine g_step_no (j := 23) (t := 26) rfl rfl rfl rfl rfl rfl rfl ?_
              refine g_step_no (j := 23) (t := 26) rfl rfl rfl rfl rfl rfl rfl ?_
              refine g_step_no (j := 23) (t := 26) rfl rfl rfl rfl rfl rfl rfl ?_
              refine g_step rfl (s_val (v_pick_t rfl rfl) rfl rfl ?_)
              refine g_step rfl (s_val (v_move rfl) rfl rfl ?_)
              refine g_step_no (j := 28) (t := 31) rfl rfl rfl rfl rfl rfl rfl ?_
              refine g_step_no (j := 28) (t := 31) rfl rfl rfl rfl rfl rfl rfl ?_
              refine g_step_no (j := 28) (t := 31) rfl rfl rfl rfl rfl rfl rfl ?_
              refine g_step_no (j := 28) (t := 31) rfl rfl rfl rfl rfl rfl rfl ?_
              refine g_step rfl (s_val (v_pick_t rfl rfl) rfl rfl ?_)
              refine g_nil ?_
              refine g_next hK1 ?_
              first | refine g_keep [36] [1] [1] (keep_cons rfl keep_nil) (lkeep_cons rfl lkeep_nil) (keep_cons rfl keep_nil) rfl ?_ | refine g_keep [36] [1] [1] rfl rfl rfl rfl ?_
              refine g_cond rfl (fun _ => ?_) (fun h => by cases h)
              refine g_seq (fun K6 hK6 => ?_)
              refine g_region ?_
              refine g_step rfl (s_val (v_assign rfl) rfl rfl ?_)
              refine g_nil ?_
              refine g_next hK6 ?_
              refine g_ret ?_
              refine g_then_ret ?_
              refine g_end1 (.inl rfl) Try.results37 (.tmp rfl) [] (ASub.refl _) (AHeap.sub_refl _) (fun p hp => by cases hp) ⟨rfl, ?_⟩
              first | (rw [mvalid_eq]; first | (rw [show spValid m.sp = false by assumption]; rfl) | (rw [decide_eq_false (p := ValidP m) (by unfold ValidP; (try unfold LivesP at *); omega), Bool.false_and, Bool.and_false]; rfl); done) | (rw [mvalid_eq]; first | (rw [show spValid m.sp = false by assumption]; rfl) | (rw [decide_eq_false (p := ValidP m) (by unfold ValidP; (try unfold LivesP at *); omega), Bool.false_and, Bool.and_false]; rfl); rfl)
            · try simp only [decide_eq_true_eq, decide_eq_false_iff_not, Bool.not_eq_true', Bool.not_eq_false', Bool.not_eq_eq_eq_not, Bool.not_true, Bool.not_false, Bool.and_eq_true, Bool.or_eq_true, Bool.or_eq_false_iff, beq_iff_eq, beq_eq_false_iff_ne, ne_eq, Int.not_lt, Int.not_le, Decidable.not_not] at hg26
              refine g_step_yes (j := 23) (t := 26) rfl rfl rfl rfl (s_fieldAddr ty30 fo30_2 ty3 rfl rfl ?_)
              refine g_step_yes (j := 23) (t := 26) rfl rfl rfl rfl (s_val (v_loadl ty3 rfl rfl rfl rfl) rfl rfl ?_)
              refine g_step_yes (j := 23) (t := 26) rfl rfl rfl rfl (s_val (v_gtr rfl rfl) rfl rfl ?_)
              refine g_step rfl (s_val (v_pick_f rfl rfl) rfl rfl ?_)
              refine g_step rfl (s_val (v_move rfl) rfl rfl ?_)
              refine g_split 31 rfl (fun hg31 => ?_) (fun hg31 => ?_)
              · try simp only [decide_eq_true_eq, decide_eq_false_iff_not, Bool.not_eq_true', Bool.not_eq_false', Bool.not_eq_eq_eq_not, Bool.not_true, Bool.not_false, Bool.and_eq_true, Bool.or_eq_true, Bool.or_eq_false_iff, beq_iff_eq, beq_eq_false_iff_ne, ne_eq, Int.not_lt, Int.not_le, Decidable.not_not] at hg31
                refine g_step_no (j := 28) (t := 31) rfl rfl rfl rfl rfl rfl rfl ?_
                refine g_step_no (j := 28) (t := 31) rfl rfl rfl rfl rfl rfl rfl ?_
                refine g_step_no (j := 28) (t := 31) rfl rfl rfl rfl rfl rfl rfl ?_
                refine g_step_no (j := 28) (t := 31) rfl rfl rfl rfl rfl rfl rfl ?_
                refine g_step rfl (s_val (v_pick_t rfl rfl) rfl rfl ?_)
                refine g_nil ?_
                refine g_next hK1 ?_
                first | refine g_keep [36] [1] [1] (keep_cons rfl keep_nil) (lkeep_cons rfl lkeep_nil) (keep_cons rfl keep_nil) rfl ?_ | refine g_keep [36] [1] [1] rfl rfl rfl rfl ?_
                refine g_cond rfl (fun _ => ?_) (fun h => by cases h)
                refine g_seq (fun K7 hK7 => ?_)
                refine g_region ?_
                refine g_step rfl (s_val (v_assign rfl) rfl rfl ?_)
                refine g_nil ?_
                refine g_next hK7 ?_
                refine g_ret ?_
                refine g_then_ret ?_
                refine g_end1 (.inl rfl) Try.results37 (.tmp rfl) [] (ASub.refl _) (AHeap.sub_refl _) (fun p hp => by cases hp) ⟨rfl, ?_⟩
                first | (rw [mvalid_eq]; first | (rw [show spValid m.sp = false by assumption]; rfl) | (rw [decide_eq_false (p := ValidP m) (by unfold ValidP; (try unfold LivesP at *); omega), Bool.false_and, Bool.and_false]; rfl); done) | (rw [mvalid_eq]; first | (rw [show spValid m.sp = false by assumption]; rfl) | (rw [decide_eq_false (p := ValidP m) (by unfold ValidP; (try unfold LivesP at *); omega), Bool.false_and, Bool.and_false]; rfl); rfl)
              · try simp only [decide_eq_true_eq, decide_eq_false_iff_not, Bool.not_eq_true', Bool.not_eq_false', Bool.not_eq_eq_eq_not, Bool.not_true, Bool.not_false, Bool.and_eq_true, Bool.or_eq_true, Bool.or_eq_false_iff, beq_iff_eq, beq_eq_false_iff_ne, ne_eq, Int.not_lt, Int.not_le, Decidable.not_not] at hg31
                refine g_step_yes (j := 28) (t := 31) rfl rfl rfl rfl (s_fieldAddr ty30 fo30_3 ty25 rfl rfl ?_)
                refine g_step_yes (j := 28) (t := 31) rfl rfl rfl rfl (s_val (v_loadl_part (cs := [_, _]) ty25 rfl rfl rfl rfl rfl rfl) rfl rfl ?_)
                refine g_step_yes (j := 28) (t := 31) rfl rfl rfl rfl (s_callp rfl rfl rfl (spValid_ok m.sp _) ?_)
                rintro _ rfl
                refine g_step_yes (j := 28) (t := 31) rfl rfl rfl rfl (s_val (v_not rfl) rfl rfl ?_)
                refine g_step rfl (s_val (v_pick_f rfl rfl) rfl rfl ?_)
                refine g_nil ?_
                refine g_next hK1 ?_
                first | refine g_keep [36] [1] [1] (keep_cons rfl keep_nil) (lkeep_cons rfl lkeep_nil) (keep_cons rfl keep_nil) rfl ?_ | refine g_keep [36] [1] [1] rfl rfl rfl rfl ?_
                refine g_cond rfl (fun hc36 => ?_) (fun hc36 => ?_)
                · try simp only [decide_eq_true_eq, decide_eq_false_iff_not, Bool.not_eq_true', Bool.not_eq_false', Bool.not_eq_eq_eq_not, Bool.not_true, Bool.not_false, Bool.and_eq_true, Bool.or_eq_true, Bool.or_eq_false_iff, beq_iff_eq, beq_eq_false_iff_ne, ne_eq, Int.not_lt, Int.not_le, Decidable.not_not] at hc36
                  refine g_seq (fun K8 hK8 => ?_)
                  refine g_region ?_
                  refine g_step rfl (s_val (v_assign rfl) rfl rfl ?_)
                  refine g_nil ?_
                  refine g_next hK8 ?_
                  refine g_ret ?_
                  refine g_then_ret ?_
                  refine g_end1 (.inl rfl) Try.results37 (.tmp rfl) [] (ASub.refl _) (AHeap.sub_refl _) (fun p hp => by cases hp) ⟨rfl, ?_⟩
                  first | (rw [mvalid_eq]; first | (rw [show spValid m.sp = false by assumption]; rfl) | (rw [decide_eq_false (p := ValidP m) (by unfold ValidP; (try unfold LivesP at *); omega), Bool.false_and, Bool.and_false]; rfl); done) | (rw [mvalid_eq]; first | (rw [show spValid m.sp = false by assumption]; rfl) | (rw [decide_eq_false (p := ValidP m) (by unfold ValidP; (try unfold LivesP at *); omega), Bool.false_and, Bool.and_false]; rfl); rfl)
                · try simp only [decide_eq_true_eq, decide_eq_false_iff_not, Bool.not_eq_true', Bool.not_eq_false', Bool.not_eq_eq_eq_not, Bool.not_true, Bool.not_false, Bool.and_eq_true, Bool.or_eq_true, Bool.or_eq_false_iff, beq_iff_eq, beq_eq_false_iff_ne, ne_eq, Int.not_lt, Int.not_le, Decidable.not_not] at hc36
                  refine g_skip ?_
                  first | refine g_keep [] [1] [1] keep_nil (lkeep_cons rfl lkeep_nil) (keep_cons rfl keep_nil) rfl ?_ | refine g_keep [] [1] [1] rfl rfl rfl rfl ?_
                  exact g_has ⟨rfl, rfl, rfl, rfl, ⟨by assumption, by omega⟩⟩
  · skip
    obtain ⟨rfl, rfl, rfl, rfl, hsp, hA⟩ := hI
    refine g_cut (fun env L B G => env = [] ∧ L = [(1, 1, 0)] ∧ B = [(1, encM m)] ∧ H = G ∧ spValid m.sp = true ∧ ((1 ≤ m.kind ∧ m.kind ≤ 9 ∧ 0 ≤ m.frm ∧ m.frm ≤ 4095 ∧ 0 ≤ m.inc ∧ m.inc ≤ 281474976710655) ∧ (0 ≤ m.seq ∧ m.seq ≤ 65535 ∧ (0 < m.seq → m.kind = 1 ∨ m.kind = 2 ∨ m.kind = 4 ∨ m.kind = 5 ∨ m.kind = 6)) ∧ (0 ≤ m.target ∧ m.target ≤ 4095 ∧ (0 < m.target → m.kind = 3 ∨ m.kind = 6)))) ?_ (fun env L B G hI => ?_)
    · skip
      refine g_seq (fun K9 hK9 => ?_)
      refine g_region ?_
      refine g_step rfl (s_fieldAddr ty30 fo30_4 ty3 rfl rfl ?_)
      refine g_step rfl (s_val (v_loadl ty3 rfl rfl rfl rfl) rfl rfl ?_)
      refine g_step rfl (s_val (v_lss rfl rfl) rfl rfl ?_)
      refine g_step rfl (s_val (v_move rfl) rfl rfl ?_)
      refine g_split 40 rfl (fun hg40 => ?_) (fun hg40 => ?_)
      · try simp only [decide_eq_true_eq, decide_eq_false_iff_not, Bool.not_eq_true', Bool.not_eq_false', Bool.not_eq_eq_eq_not, Bool.not_true, Bool.not_false, Bool.and_eq_true, Bool.or_eq_true, Bool.or_eq_false_iff, beq_iff_eq, beq_eq_false_iff_ne, ne_eq, Int.not_lt, Int.not_le, Decidable.not_not] at hg40
        refine g_step_no (j := 3) (t := 40) rfl rfl rfl rfl rfl rfl rfl ?_
        refine g_step_no (j := 3) (t := 40) rfl rfl rfl rfl rfl rfl rfl ?_
        refine g_step_no (j := 3) (t := 40) rfl rfl rfl rfl rfl rfl rfl ?_
        refine g_step rfl (s_val (v_pick_t rfl rfl) rfl rfl ?_)
        refine g_step rfl (s_val (v_move rfl) rfl rfl ?_)
        refine g_step_no (j := 8) (t := 45) rfl rfl rfl rfl rfl rfl rfl ?_
        refine g_step_no (j := 8) (t := 45) rfl rfl rfl rfl rfl rfl rfl ?_
        refine g_step_no (j := 8) (t := 45) rfl rfl rfl rfl rfl rfl rfl ?_
        refine g_step_no (j := 8) (t := 45) rfl rfl rfl rfl rfl rfl rfl ?_
        refine g_step_und (j := 12) (t := 49) rfl rfl rfl rfl rfl rfl ?_
        refine g_step_und (j := 12) (t := 49) rfl rfl rfl rfl rfl rfl ?_
        refine g_step_und (j := 12) (t := 49) rfl rfl rfl rfl rfl rfl ?_
        refine g_step_und (j := 12) (t := 49) rfl rfl rfl rfl rfl rfl ?_
        refine g_step_no (j := 8) (t := 45) rfl rfl rfl rfl rfl rfl rfl ?_
        refine g_step rfl (s_val (v_pick_t rfl rfl) rfl rfl ?_)
        refine g_step rfl (s_val (v_move rfl) rfl rfl ?_)
        refine g_step_no (j := 19) (t := 56) rfl rfl rfl rfl rfl rfl rfl ?_
        refine g_step_no (j := 19) (t := 56) rfl rfl rfl rfl rfl rfl rfl ?_
        refine g_step_no (j := 19) (t := 56) rfl rfl rfl rfl rfl rfl rfl ?_
        refine g_step rfl (s_val (v_pick_t rfl rfl) rfl rfl ?_)
        refine g_step rfl (s_val (v_move rfl) rfl rfl ?_)
        refine g_step_no (j := 24) (t := 61) rfl rfl rfl rfl rfl rfl rfl ?_
        refine g_step_no (j := 24) (t := 61) rfl rfl rfl rfl rfl rfl rfl ?_
        refine g_step_no (j := 24) (t := 61) rfl rfl rfl rfl rfl rfl rfl ?_
        refine g_step rfl (s_val (v_pick_t rfl rfl) rfl rfl ?_)
        refine g_step rfl (s_val (v_move rfl) rfl rfl ?_)
        refine g_step_no (j := 29) (t := 66) rfl rfl rfl rfl rfl rfl rfl ?_
        refine g_step_no (j := 29) (t := 66) rfl rfl rfl rfl rfl rfl rfl ?_
        refine g_step_no (j := 29) (t := 66) rfl rfl rfl rfl rfl rfl rfl ?_
        refine g_step_no (j := 29) (t := 66) rfl rfl rfl rfl rfl rfl rfl ?_
        refine g_step_und (j := 33) (t := 70) rfl rfl rfl rfl rfl rfl ?_
        refine g_step_und (j := 33) (t := 70) rfl rfl rfl rfl rfl rfl ?_
        refine g_step_und (j := 33) (t := 70) rfl rfl rfl rfl rfl rfl ?_
        refine g_step_und (j := 33) (t := 70) rfl rfl rfl rfl rfl rfl ?_
        refine g_step_no (j := 29) (t := 66) rfl rfl rfl rfl rfl rfl rfl ?_
        refine g_step rfl (s_val (v_pick_t rfl rfl) rfl rfl ?_)
        refine g_nil ?_
        refine g_next hK9 ?_
        first | refine g_keep [76] [1] [1] (keep_cons rfl keep_nil) (lkeep_cons rfl lkeep_nil) (keep_cons rfl keep_nil) rfl ?_ | refine g_keep [76] [1] [1] rfl rfl rfl rfl ?_
        refine g_cond rfl (fun _ => ?_) (fun h => by cases h)
        refine g_seq (fun K10 hK10 => ?_)
        refine g_region ?_
        refine g_step rfl (s_val (v_assign rfl) rfl rfl ?_)
        refine g_nil ?_
        refine g_next hK10 ?_
        refine g_ret ?_
        refine g_then_ret ?_
        refine g_end1 (.inl rfl) Try.results37 (.tmp rfl) [] (ASub.refl _) (AHeap.sub_refl _) (fun p hp => by cases hp) ⟨rfl, ?_⟩
        first | (rw [mvalid_eq]; first | (rw [show spValid m.sp = false by assumption]; rfl) | (rw [decide_eq_false (p := ValidP m) (by unfold ValidP; (try unfold LivesP at *); omega), Bool.false_and, Bool.and_false]; rfl); done) | (rw [mvalid_eq]; first | (rw [show spValid m.sp = false by assumption]; rfl) | (rw [decide_eq_false (p := ValidP m) (by unfold ValidP; (try unfold LivesP at *); omega), Bool.false_and, Bool.and_false]; rfl); rfl)
      · try simp only [decide_eq_true_eq, decide_eq_false_iff_not, Bool.not_eq_true', Bool.not_eq_false', Bool.not_eq_eq_eq_not, Bool.not_true, Bool.not_false, Bool.and_eq_true, Bool.or_eq_true, Bool.or_eq_false_iff, beq_iff_eq, beq_eq_false_iff_ne, ne_eq, Int.not_lt, Int.not_le, Decidable.not_not] at hg40
        refine g_step_yes (j := 3) (t := 40) rfl rfl rfl rfl (s_fieldAddr ty30 fo30_4 ty3 rfl rfl ?_)
        refine g_step_yes (j := 3) (t := 40) rfl rfl rfl rfl (s_val (v_loadl ty3 rfl rfl rfl rfl) rfl rfl ?_)
        refine g_step_yes (j := 3) (t := 40) rfl rfl rfl rfl (s_val (v_gtr rfl rfl) rfl rfl ?_)
        refine g_step rfl (s_val (v_pick_f rfl rfl) rfl rfl ?_)
        refine g_step rfl (s_val (v_move rfl) rfl rfl ?_)
        refine g_split 45 rfl (fun hg45 => ?_) (fun hg45 => ?_)
        · try simp only [decide_eq_true_eq, decide_eq_false_iff_not, Bool.not_eq_true', Bool.not_eq_false', Bool.not_eq_eq_eq_not, Bool.not_true, Bool.not_false, Bool.and_eq_true, Bool.or_eq_true, Bool.or_eq_false_iff, beq_iff_eq, beq_eq_false_iff_ne, ne_eq, Int.not_lt, Int.not_le, Decidable.not_not] at hg45
          refine g_step_no (j := 8) (t := 45) rfl rfl rfl rfl rfl rfl rfl ?_
          refine g_step_no (j := 8) (t := 45) rfl rfl rfl rfl rfl rfl rfl ?_
          refine g_step_no (j := 8) (t := 45) rfl rfl rfl rfl rfl rfl rfl ?_
          refine g_step_no (j := 8) (t := 45) rfl rfl rfl rfl rfl rfl rfl ?_
          refine g_step_und (j := 12) (t := 49) rfl rfl rfl rfl rfl rfl ?_
          refine g_step_und (j := 12) (t := 49) rfl rfl rfl rfl rfl rfl ?_
          refine g_step_und (j := 12) (t := 49) rfl rfl rfl rfl rfl rfl ?_
          refine g_step_und (j := 12) (t := 49) rfl rfl rfl rfl rfl rfl ?_
          refine g_step_no (j := 8) (t := 45) rfl rfl rfl rfl rfl rfl rfl ?_
          refine g_step rfl (s_val (v_pick_t rfl rfl) rfl rfl ?_)
          refine g_step rfl (s_val (v_move rfl) rfl rfl ?_)
          refine g_step_no (j := 19) (t := 56) rfl rfl rfl rfl rfl rfl rfl ?_
          refine g_step_no (j := 19) (t := 56) rfl rfl rfl rfl rfl rfl rfl ?_
          refine g_step_no (j := 19) (t := 56) rfl rfl rfl rfl rfl rfl rfl ?_
          refine g_step rfl (s_val (v_pick_t rfl rfl) rfl rfl ?_)
          refine g_step rfl (s_val (v_move rfl) rfl rfl ?_)
          refine g_step_no (j := 24) (t := 61) rfl rfl rfl rfl rfl rfl rfl ?_
          refine g_step_no (j := 24) (t := 61) rfl rfl rfl rfl rfl rfl rfl ?_
          refine g_step_no (j := 24) (t := 61) rfl rfl rfl rfl rfl rfl rfl ?_
          refine g_step rfl (s_val (v_pick_t rfl rfl) rfl rfl ?_)
          refine g_step rfl (s_val (v_move rfl) rfl rfl ?_)
          refine g_step_no (j := 29) (t := 66) rfl rfl rfl rfl rfl rfl rfl ?_
          refine g_step_no (j := 29) (t := 66) rfl rfl rfl rfl rfl rfl rfl ?_
          refine g_step_no (j := 29) (t := 66) rfl rfl rfl rfl rfl rfl rfl ?_
          refine g_step_no (j := 29) (t := 66) rfl rfl rfl rfl rfl rfl rfl ?_
          refine g_step_und (j := 33) (t := 70) rfl rfl rfl rfl rfl rfl ?_
          refine g_step_und (j := 33) (t := 70) rfl rfl rfl rfl rfl rfl ?_
          refine g_step_und (j := 33) (t := 70) rfl rfl rfl rfl rfl rfl ?_
          refine g_step_und (j := 33) (t := 70) rfl rfl rfl rfl rfl rfl ?_
          refine g_step_no (j := 29) (t := 66) rfl rfl rfl rfl rfl rfl rfl ?_
          refine g_step rfl (s_val (v_pick_t rfl rfl) rfl rfl ?_)
          refine g_nil ?_
          refine g_next hK9 ?_
          first | refine g_keep [76] [1] [1] (keep_cons rfl keep_nil) (lkeep_cons rfl lkeep_nil) (keep_cons rfl keep_nil) rfl ?_ | refine g_keep [76] [1] [1] rfl rfl rfl rfl ?_
          refine g_cond rfl (fun _ => ?_) (fun h => by cases h)
          refine g_seq (fun K11 hK11 => ?_)
          refine g_region ?_
          refine g_step rfl (s_val (v_assign rfl) rfl rfl ?_)
          refine g_nil ?_
          refine g_next hK11 ?_
          refine g_ret ?_
          refine g_then_ret ?_
          refine g_end1 (.inl rfl) Try.results37 (.tmp rfl) [] (ASub.refl _) (AHeap.sub_refl _) (fun p hp => by cases hp) ⟨rfl, ?_⟩
          first | (rw [mvalid_eq]; first | (rw [show spValid m.sp = false by assumption]; rfl) | (rw [decide_eq_false (p := ValidP m) (by unfold ValidP; (try unfold LivesP at *); omega), Bool.false_and, Bool.and_false]; rfl); done) | (rw [mvalid_eq]; first | (rw [show spValid m.sp = false by assumption]; rfl) | (rw [decide_eq_false (p := ValidP m) (by unfold ValidP; (try unfold LivesP at *); omega), Bool.false_and, Bool.and_false]; rfl); rfl)
        · try simp only [decide_eq_true_eq, decide_eq_false_iff_not, Bool.not_eq_true', Bool.not_eq_false', Bool.not_eq_eq_eq_not, Bool.not_true, Bool.not_false, Bool.and_eq_true, Bool.or_eq_true, Bool.or_eq_false_iff, beq_iff_eq, beq_eq_false_iff_ne, ne_eq, Int.not_lt, Int.not_le, Decidable.not_not] at hg45
          refine g_step_yes (j := 8) (t := 45) rfl rfl rfl rfl (s_fieldAddr ty30 fo30_4 ty3 rfl rfl ?_)
          refine g_step_yes (j := 8) (t := 45) rfl rfl rfl rfl (s_val (v_loadl ty3 rfl rfl rfl rfl) rfl rfl ?_)
          refine g_step_yes (j := 8) (t := 45) rfl rfl rfl rfl (s_val (v_gtr rfl rfl) rfl rfl ?_)
          refine g_step_yes (j := 8) (t := 45) rfl rfl rfl rfl (s_val (v_move rfl) rfl rfl ?_)
          refine g_split 49 rfl (fun hg49 => ?_) (fun hg49 => ?_)
          · try simp only [decide_eq_true_eq, decide_eq_false_iff_not, Bool.not_eq_true', Bool.not_eq_false', Bool.not_eq_eq_eq_not, Bool.not_true, Bool.not_false, Bool.and_eq_true, Bool.or_eq_true, Bool.or_eq_false_iff, beq_iff_eq, beq_eq_false_iff_ne, ne_eq, Int.not_lt, Int.not_le, Decidable.not_not] at hg49
            refine g_step_yes (j := 12) (t := 49) rfl rfl rfl rfl (s_fieldAddr ty30 fo30_0 ty3 rfl rfl ?_)
            refine g_step_yes (j := 12) (t := 49) rfl rfl rfl rfl (s_val (v_loadl ty3 rfl rfl rfl rfl) rfl rfl ?_)
            refine g_step_yes (j := 12) (t := 49) rfl rfl rfl rfl (s_callp rfl rfl rfl (has17_ok m.kind 0 _) ?_)
            rintro _ rfl
            rw [has10_0]
            refine g_step_yes (j := 12) (t := 49) rfl rfl rfl rfl (s_val (v_not rfl) rfl rfl ?_)
            refine g_step_yes (j := 8) (t := 45) rfl rfl rfl rfl (s_val (v_pick_t rfl rfl) rfl rfl ?_)
            refine g_step rfl (s_val (v_pick_f rfl rfl) rfl rfl ?_)
            refine g_step rfl (s_val (v_move rfl) rfl rfl ?_)
            refine g_split 56 rfl (fun hg56 => ?_) (fun hg56 => ?_)
            · try simp only [decide_eq_true_eq, decide_eq_false_iff_not, Bool.not_eq_true', Bool.not_eq_false', Bool.not_eq_eq_eq_not, Bool.not_true, Bool.not_false, Bool.and_eq_true, Bool.or_eq_true, Bool.or_eq_false_iff, beq_iff_eq, beq_eq_false_iff_ne, ne_eq, Int.not_lt, Int.not_le, Decidable.not_not] at hg56
              refine g_step_no (j := 19) (t := 56) rfl rfl rfl rfl rfl rfl rfl ?_
              refine g_step_no (j := 19) (t := 56) rfl rfl rfl rfl rfl rfl rfl ?_
              refine g_step_no (j := 19) (t := 56) rfl rfl rfl rfl rfl rfl rfl ?_
              refine g_step rfl (s_val (v_pick_t rfl rfl) rfl rfl ?_)
              refine g_step rfl (s_val (v_move rfl) rfl rfl ?_)
              refine g_step_no (j := 24) (t := 61) rfl rfl rfl rfl rfl rfl rfl ?_
              refine g_step_no (j := 24) (t := 61) rfl rfl rfl rfl rfl rfl rfl ?_
              refine g_step_no (j := 24) (t := 61) rfl rfl rfl rfl rfl rfl rfl ?_
              refine g_step rfl (s_val (v_pick_t rfl rfl) rfl rfl ?_)
              refine g_step rfl (s_val (v_move rfl) rfl rfl ?_)
              refine g_step_no (j := 29) (t := 66) rfl rfl rfl rfl rfl rfl rfl ?_
              refine g_step_no (j := 29) (t := 66) rfl rfl rfl rfl rfl rfl rfl ?_
              refine g_step_no (j := 29) (t := 66) rfl rfl rfl rfl rfl rfl rfl ?_
              refine g_step_no (j := 29) (t := 66) rfl rfl rfl rfl rfl rfl rfl ?_
              refine g_step_und (j := 33) (t := 70) rfl rfl rfl rfl rfl rfl ?_
              refine g_step_und (j := 33) (t := 70) rfl rfl rfl rfl rfl rfl ?_
              refine g_step_und (j := 33) (t := 70) rfl rfl rfl rfl rfl rfl ?_
              refine g_step_und (j := 33) (t := 70) rfl rfl rfl rfl rfl rfl ?_
              refine g_step_no (j := 29) (t := 66) rfl rfl rfl rfl rfl rfl rfl ?_
              refine g_step rfl (s_val (v_pick_t rfl rfl) rfl rfl ?_)
              refine g_nil ?_
              refine g_next hK9 ?_
              first | refine g_keep [76] [1] [1] (keep_cons rfl keep_nil) (lkeep_cons rfl lkeep_nil) (keep_cons rfl keep_nil) rfl ?_ | refine g_keep [76] [1] [1] rfl rfl rfl rfl ?_
              refine g_cond rfl (fun _ => ?_) (fun h => by cases h)
              refine g_seq (fun K12 hK12 => ?_)
              refine g_region ?_
              refine g_step rfl (s_val (v_assign rfl) rfl rfl ?_)
              refine g_nil ?_
              refine g_next hK12 ?_
              refine g_ret ?_
              refine g_then_ret ?_
              refine g_end1 (.inl rfl) Try.results37 (.tmp rfl) [] (ASub.refl _) (AHeap.sub_refl _) (fun p hp => by cases hp) ⟨rfl, ?_⟩
              first | (rw [mvalid_eq]; first | (rw [show spValid m.sp = false by assumption]; rfl) | (rw [decide_eq_false (p := ValidP m) (by unfold ValidP; (try unfold LivesP at *); omega), Bool.false_and, Bool.and_false]; rfl); done) | (rw [mvalid_eq]; first | (rw [show spValid m.sp = false by assumption]; rfl) | (rw [decide_eq_false (p := ValidP m) (by unfold ValidP; (try unfold LivesP at *); omega), Bool.false_and, Bool.and_false]; rfl); rfl)
            · try simp only [decide_eq_true_eq, decide_eq_false_iff_not, Bool.not_eq_true', Bool.not_eq_false', Bool.not_eq_eq_eq_not, Bool.not_true, Bool.not_false, Bool.and_eq_true, Bool.or_eq_true, Bool.or_eq_false_iff, beq_iff_eq, beq_eq_false_iff_ne, ne_eq, Int.not_lt, Int.not_le, Decidable.not_not] at hg56
              refine g_step_yes (j := 19) (t := 56) rfl rfl rfl rfl (s_fieldAddr ty30 fo30_5 ty3 rfl rfl ?_)
              refine g_step_yes (j := 19) (t := 56) rfl rfl rfl rfl (s_val (v_loadl ty3 rfl rfl rfl rfl) rfl rfl ?_)
              refine g_step_yes (j := 19) (t := 56) rfl rfl rfl rfl (s_val (v_lss rfl rfl) rfl rfl ?_)
              refine g_step rfl (s_val (v_pick_f rfl rfl) rfl rfl ?_)
              refine g_step rfl (s_val (v_move rfl) rfl rfl ?_)
              refine g_split 61 rfl (fun hg61 => ?_) (fun hg61 => ?_)
              · try simp only [decide_eq_true_eq, decide_eq_false_iff_not, Bool.not_eq_true', Bool.not_eq_false', Bool.not_eq_eq_eq_not, Bool.not_true, Bool.not_false, Bool.and_eq_true, Bool.or_eq_true, Bool.or_eq_false_iff, beq_iff_eq, beq_eq_false_iff_ne, ne_eq, Int.not_lt, Int.not_le, Decidable.not_not] at hg61
                refine g_step_no (j := 24) (t := 61) rfl rfl rfl rfl rfl rfl rfl ?_
                refine g_step_no (j := 24) (t := 61) rfl rfl rfl rfl rfl rfl rfl ?_
                refine g_step_no (j := 24) (t := 61) rfl rfl rfl rfl rfl rfl rfl ?_
                refine g_step rfl (s_val (v_pick_t rfl rfl) rfl rfl ?_)
                refine g_step rfl (s_val (v_move rfl) rfl rfl ?_)
                refine g_step_no (j := 29) (t := 66) rfl rfl rfl rfl rfl rfl rfl ?_
                refine g_step_no (j := 29) (t := 66) rfl rfl rfl rfl rfl rfl rfl ?_
                refine g_step_no (j := 29) (t := 66) rfl rfl rfl rfl rfl rfl rfl ?_
                refine g_step_no (j := 29) (t := 66) rfl rfl rfl rfl rfl rfl rfl ?_
                refine g_step_und (j := 33) (t := 70) rfl rfl rfl rfl rfl rfl ?_
                refine g_step_und (j := 33) (t := 70) rfl rfl rfl rfl rfl rfl ?_
                refine g_step_und (j := 33) (t := 70) rfl rfl rfl rfl rfl rfl ?_
                refine g_step_und (j := 33) (t := 70) rfl rfl rfl rfl rfl rfl ?_
                refine g_step_no (j := 29) (t := 66) rfl rfl rfl rfl rfl rfl rfl ?_
                refine g_step rfl (s_val (v_pick_t rfl rfl) rfl rfl ?_)
                refine g_nil ?_
                refine g_next hK9 ?_
                first | refine g_keep [76] [1] [1] (keep_cons rfl keep_nil) (lkeep_cons rfl lkeep_nil) (keep_cons rfl keep_nil) rfl ?_ | refine g_keep [76] [1] [1] rfl rfl rfl rfl ?_
                refine g_cond rfl (fun _ => ?_) (fun h => by cases h)
                refine g_seq (fun K13 hK13 => ?_)
                refine g_region ?_
                refine g_step rfl (s_val (v_assign rfl) rfl rfl ?_)
                refine g_nil ?_
                refine g_next hK13 ?_
                refine g_ret ?_
                refine g_then_ret ?_
                refine g_end1 (.inl rfl) Try.results37 (.tmp rfl) [] (ASub.refl _) (AHeap.sub_refl _) (fun p hp => by cases hp) ⟨rfl, ?_⟩
                first | (rw [mvalid_eq]; first | (rw [show spValid m.sp = false by assumption]; rfl) | (rw [decide_eq_false (p := ValidP m) (by unfold ValidP; (try unfold LivesP at *); omega), Bool.false_and, Bool.and_false]; rfl); done) | (rw [mvalid_eq]; first | (rw [show spValid m.sp = false by assumption]; rfl) | (rw [decide_eq_false (p := ValidP m) (by unfold ValidP; (try unfold LivesP at *); omega), Bool.false_and, Bool.and_false]; rfl); rfl)
              · try simp only [decide_eq_true_eq, decide_eq_false_iff_not, Bool.not_eq_true', Bool.not_eq_false', Bool.not_eq_eq_eq_not, Bool.not_true, Bool.not_false, Bool.and_eq_true, Bool.or_eq_true, Bool.or_eq_false_iff, beq_iff_eq, beq_eq_false_iff_ne, ne_eq, Int.not_lt, Int.not_le, Decidable.not_not] at hg61
                refine g_step_yes (j := 24) (t := 61) rfl rfl rfl rfl (s_fieldAddr ty30 fo30_5 ty3 rfl rfl ?_)
                refine g_step_yes (j := 24) (t := 61) rfl rfl rfl rfl (s_val (v_loadl ty3 rfl rfl rfl rfl) rfl rfl ?_)
                refine g_step_yes (j := 24) (t := 61) rfl rfl rfl rfl (s_val (v_gtr rfl rfl) rfl rfl ?_)
                refine g_step rfl (s_val (v_pick_f rfl rfl) rfl rfl ?_)
                refine g_step rfl (s_val (v_move rfl) rfl rfl ?_)
                refine g_split 66 rfl (fun hg66 => ?_) (fun hg66 => ?_)
                · try simp only [decide_eq_true_eq, decide_eq_false_iff_not, Bool.not_eq_true', Bool.not_eq_false', Bool.not_eq_eq_eq_not, Bool.not_true, Bool.not_false, Bool.and_eq_true, Bool.or_eq_true, Bool.or_eq_false_iff, beq_iff_eq, beq_eq_false_iff_ne, ne_eq, Int.not_lt, Int.not_le, Decidable.not_not] at hg66
                  refine g_step_no (j := 29) (t := 66) rfl rfl rfl rfl rfl rfl rfl ?_
                  refine g_step_no (j := 29) (t := 66) rfl rfl rfl rfl rfl rfl rfl ?_
                  refine g_step_no (j := 29) (t := 66) rfl rfl rfl rfl rfl rfl rfl ?_
                  refine g_step_no (j := 29) (t := 66) rfl rfl rfl rfl rfl rfl rfl ?_
                  refine g_step_und (j := 33) (t := 70) rfl rfl rfl rfl rfl rfl ?_
                  refine g_step_und (j := 33) (t := 70) rfl rfl rfl rfl rfl rfl ?_
                  refine g_step_und (j := 33) (t := 70) rfl rfl rfl rfl rfl rfl ?_
                  refine g_step_und (j := 33) (t := 70) rfl rfl rfl rfl rfl rfl ?_
                  refine g_step_no (j := 29) (t := 66) rfl rfl rfl rfl rfl rfl rfl ?_
                  refine g_step rfl (s_val (v_pick_t rfl rfl) rfl rfl ?_)
                  refine g_nil ?_
                  refine g_next hK9 ?_
                  first | refine g_keep [76] [1] [1] (keep_cons rfl keep_nil) (lkeep_cons rfl lkeep_nil) (keep_cons rfl keep_nil) rfl ?_ | refine g_keep [76] [1] [1] rfl rfl rfl rfl ?_
                  refine g_cond rfl (fun _ => ?_) (fun h => by cases h)
                  refine g_seq (fun K14 hK14 => ?_)
                  refine g_region ?_
                  refine g_step rfl (s_val (v_assign rfl) rfl rfl ?_)
                  refine g_nil ?_
                  refine g_next hK14 ?_
                  refine g_ret ?_
                  refine g_then_ret ?_
                  refine g_end1 (.inl rfl) Try.results37 (.tmp rfl) [] (ASub.refl _) (AHeap.sub_refl _) (fun p hp => by cases hp) ⟨rfl, ?_⟩
                  first | (rw [mvalid_eq]; first | (rw [show spValid m.sp = false by assumption]; rfl) | (rw [decide_eq_false (p := ValidP m) (by unfold ValidP; (try unfold LivesP at *); omega), Bool.false_and, Bool.and_false]; rfl); done) | (rw [mvalid_eq]; first | (rw [show spValid m.sp = false by assumption]; rfl) | (rw [decide_eq_false (p := ValidP m) (by unfold ValidP; (try unfold LivesP at *); omega), Bool.false_and, Bool.and_false]; rfl); rfl)
                · try simp only [decide_eq_true_eq, decide_eq_false_iff_not, Bool.not_eq_true', Bool.not_eq_false', Bool.not_eq_eq_eq_not, Bool.not_true, Bool.not_false, Bool.and_eq_true, Bool.or_eq_true, Bool.or_eq_false_iff, beq_iff_eq, beq_eq_false_iff_ne, ne_eq, Int.not_lt, Int.not_le, Decidable.not_not] at hg66
                  refine g_step_yes (j := 29) (t := 66) rfl rfl rfl rfl (s_fieldAddr ty30 fo30_5 ty3 rfl rfl ?_)
                  refine g_step_yes (j := 29) (t := 66) rfl rfl rfl rfl (s_val (v_loadl ty3 rfl rfl rfl rfl) rfl rfl ?_)
                  refine g_step_yes (j := 29) (t := 66) rfl rfl rfl rfl (s_val (v_gtr rfl rfl) rfl rfl ?_)
                  refine g_step_yes (j := 29) (t := 66) rfl rfl rfl rfl (s_val (v_move rfl) rfl rfl ?_)
                  refine g_split 70 rfl (fun hg70 => ?_) (fun hg70 => ?_)
                  · try simp only [decide_eq_true_eq, decide_eq_false_iff_not, Bool.not_eq_true', Bool.not_eq_false', Bool.not_eq_eq_eq_not, Bool.not_true, Bool.not_false, Bool.and_eq_true, Bool.or_eq_true, Bool.or_eq_false_iff, beq_iff_eq, beq_eq_false_iff_ne, ne_eq, Int.not_lt, Int.not_le, Decidable.not_not] at hg70
                    refine g_step_yes (j := 33) (t := 70) rfl rfl rfl rfl (s_fieldAddr ty30 fo30_0 ty3 rfl rfl ?_)
                    refine g_step_yes (j := 33) (t := 70) rfl rfl rfl rfl (s_val (v_loadl ty3 rfl rfl rfl rfl) rfl rfl ?_)
                    refine g_step_yes (j := 33) (t := 70) rfl rfl rfl rfl (s_callp rfl rfl rfl (has17_ok m.kind 1 _) ?_)
                    rintro _ rfl
                    rw [has10_1]
                    refine g_step_yes (j := 33) (t := 70) rfl rfl rfl rfl (s_val (v_not rfl) rfl rfl ?_)
                    refine g_step_yes (j := 29) (t := 66) rfl rfl rfl rfl (s_val (v_pick_t rfl rfl) rfl rfl ?_)
                    refine g_step rfl (s_val (v_pick_f rfl rfl) rfl rfl ?_)
                    refine g_nil ?_
                    refine g_next hK9 ?_
                    first | refine g_keep [76] [1] [1] (keep_cons rfl keep_nil) (lkeep_cons rfl lkeep_nil) (keep_cons rfl keep_nil) rfl ?_ | refine g_keep [76] [1] [1] rfl rfl rfl rfl ?_
                    refine g_cond rfl (fun hc76 => ?_) (fun hc76 => ?_)
                    · try simp only [decide_eq_true_eq, decide_eq_false_iff_not, Bool.not_eq_true', Bool.not_eq_false', Bool.not_eq_eq_eq_not, Bool.not_true, Bool.not_false, Bool.and_eq_true, Bool.or_eq_true, Bool.or_eq_false_iff, beq_iff_eq, beq_eq_false_iff_ne, ne_eq, Int.not_lt, Int.not_le, Decidable.not_not] at hc76
                      refine g_seq (fun K15 hK15 => ?_)
                      refine g_region ?_
                      refine g_step rfl (s_val (v_assign rfl) rfl rfl ?_)
                      refine g_nil ?_
                      refine g_next hK15 ?_
                      refine g_ret ?_
                      refine g_then_ret ?_
                      refine g_end1 (.inl rfl) Try.results37 (.tmp rfl) [] (ASub.refl _) (AHeap.sub_refl _) (fun p hp => by cases hp) ⟨rfl, ?_⟩
                      first | (rw [mvalid_eq]; first | (rw [show spValid m.sp = false by assumption]; rfl) | (rw [decide_eq_false (p := ValidP m) (by unfold ValidP; (try unfold LivesP at *); omega), Bool.false_and, Bool.and_false]; rfl); done) | (rw [mvalid_eq]; first | (rw [show spValid m.sp = false by assumption]; rfl) | (rw [decide_eq_false (p := ValidP m) (by unfold ValidP; (try unfold LivesP at *); omega), Bool.false_and, Bool.and_false]; rfl); rfl)
                    · try simp only [decide_eq_true_eq, decide_eq_false_iff_not, Bool.not_eq_true', Bool.not_eq_false', Bool.not_eq_eq_eq_not, Bool.not_true, Bool.not_false, Bool.and_eq_true, Bool.or_eq_true, Bool.or_eq_false_iff, beq_iff_eq, beq_eq_false_iff_ne, ne_eq, Int.not_lt, Int.not_le, Decidable.not_not] at hc76
                      refine g_skip ?_
                      first | refine g_keep [] [1] [1] keep_nil (lkeep_cons rfl lkeep_nil) (keep_cons rfl keep_nil) rfl ?_ | refine g_keep [] [1] [1] rfl rfl rfl rfl ?_
                      exact g_has ⟨rfl, rfl, rfl, rfl, ⟨by assumption, by omega⟩⟩
                  · try simp only [decide_eq_true_eq, decide_eq_false_iff_not, Bool.not_eq_true', Bool.not_eq_false', Bool.not_eq_eq_eq_not, Bool.not_true, Bool.not_false, Bool.and_eq_true, Bool.or_eq_true, Bool.or_eq_false_iff, beq_iff_eq, beq_eq_false_iff_ne, ne_eq, Int.not_lt, Int.not_le, Decidable.not_not] at hg70
                    refine g_step_no (j := 33) (t := 70) rfl rfl rfl rfl rfl rfl rfl ?_
                    refine g_step_no (j := 33) (t := 70) rfl rfl rfl rfl rfl rfl rfl ?_
                    refine g_step_no (j := 33) (t := 70) rfl rfl rfl rfl rfl rfl rfl ?_
                    refine g_step_no (j := 33) (t := 70) rfl rfl rfl rfl rfl rfl rfl ?_
                    refine g_step_yes (j := 29) (t := 66) rfl rfl rfl rfl (s_val (v_pick_f rfl rfl) rfl rfl ?_)
                    refine g_step rfl (s_val (v_pick_f rfl rfl) rfl rfl ?_)
                    refine g_nil ?_
                    refine g_next hK9 ?_
                    first | refine g_keep [76] [1] [1] (keep_cons rfl keep_nil) (lkeep_cons rfl lkeep_nil) (keep_cons rfl keep_nil) rfl ?_ | refine g_keep [76] [1] [1] rfl rfl rfl rfl ?_
                    refine g_cond rfl (fun h => by cases h) (fun _ => ?_)
                    refine g_skip ?_
                    first | refine g_keep [] [1] [1] keep_nil (lkeep_cons rfl lkeep_nil) (keep_cons rfl keep_nil) rfl ?_ | refine g_keep [] [1] [1] rfl rfl rfl rfl ?_
                    exact g_has ⟨rfl, rfl, rfl, rfl, ⟨by assumption, by omega⟩⟩
          · try simp only [decide_eq_true_eq, decide_eq_false_iff_not, Bool.not_eq_true', Bool.not_eq_false', Bool.not_eq_eq_eq_not, Bool.not_true, Bool.not_false, Bool.and_eq_true, Bool.or_eq_true, Bool.or_eq_false_iff, beq_iff_eq, beq_eq_false_iff_ne, ne_eq, Int.not_lt, Int.not_le, Decidable.not_not] at hg49
            refine g_step_no (j := 12) (t := 49) rfl rfl rfl rfl rfl rfl rfl ?_
            refine g_step_no (j := 12) (t := 49) rfl rfl rfl rfl rfl rfl rfl ?_
            refine g_step_no (j := 12) (t := 49) rfl rfl rfl rfl rfl rfl rfl ?_
            refine g_step_no (j := 12) (t := 49) rfl rfl rfl rfl rfl rfl rfl ?_
            refine g_step_yes (j := 8) (t := 45) rfl rfl rfl rfl (s_val (v_pick_f rfl rfl) rfl rfl ?_)
            refine g_step rfl (s_val (v_pick_f rfl rfl) rfl rfl ?_)
            refine g_step rfl (s_val (v_move rfl) rfl rfl ?_)
            refine g_step_yes (j := 19) (t := 56) rfl rfl rfl rfl (s_fieldAddr ty30 fo30_5 ty3 rfl rfl ?_)
            refine g_step_yes (j := 19) (t := 56) rfl rfl rfl rfl (s_val (v_loadl ty3 rfl rfl rfl rfl) rfl rfl ?_)
            refine g_step_yes (j := 19) (t := 56) rfl rfl rfl rfl (s_val (v_lss rfl rfl) rfl rfl ?_)
            refine g_step rfl (s_val (v_pick_f rfl rfl) rfl rfl ?_)
            refine g_step rfl (s_val (v_move rfl) rfl rfl ?_)
            refine g_split 61 rfl (fun hg61 => ?_) (fun hg61 => ?_)
            · try simp only [decide_eq_true_eq, decide_eq_false_iff_not, Bool.not_eq_true', Bool.not_eq_false', Bool.not_eq_eq_eq_not, Bool.not_true, Bool.not_false, Bool.and_eq_true, Bool.or_eq_true, Bool.or_eq_false_iff, beq_iff_eq, beq_eq_false_iff_ne, ne_eq, Int.not_lt, Int.not_le, Decidable.not_not] at hg61
              refine g_step_no (j := 24) (t := 61) rfl rfl rfl rfl rfl rfl rfl ?_
              refine g_step_no (j := 24) (t := 61) rfl rfl rfl rfl rfl rfl rfl ?_
              refine g_step_no (j := 24) (t := 61) rfl rfl rfl rfl rfl rfl rfl ?_
              refine g_step rfl (s_val (v_pick_t rfl rfl) rfl rfl ?_)
              refine g_step rfl (s_val (v_move rfl) rfl rfl ?_)
              refine g_step_no (j := 29) (t := 66) rfl rfl rfl rfl rfl rfl rfl ?_
              refine g_step_no (j := 29) (t := 66) rfl rfl rfl rfl rfl rfl rfl ?_
              refine g_step_no (j := 29) (t := 66) rfl rfl rfl rfl rfl rfl rfl ?_
              refine g_step_no (j := 29) (t := 66) rfl rfl rfl rfl rfl rfl rfl ?_
              refine g_step_und (j := 33) (t := 70) rfl rfl rfl rfl rfl rfl ?_
              refine g_step_und (j := 33) (t := 70) rfl rfl rfl rfl rfl rfl ?_
              refine g_step_und (j := 33) (t := 70) rfl rfl rfl rfl rfl rfl ?_
              refine g_step_und (j := 33) (t := 70) rfl rfl rfl rfl rfl rfl ?_
              refine g_step_no (j := 29) (t := 66) rfl rfl rfl rfl rfl rfl rfl ?_
              refine g_step rfl (s_val (v_pick_t rfl rfl) rfl rfl ?_)
              refine g_nil ?_
              refine g_next hK9 ?_
              first | refine g_keep [76] [1] [1] (keep_cons rfl keep_nil) (lkeep_cons rfl lkeep_nil) (keep_cons rfl keep_nil) rfl ?_ | refine g_keep [76] [1] [1] rfl rfl rfl rfl ?_
              refine g_cond rfl (fun _ => ?_) (fun h => by cases h)
              refine g_seq (fun K16 hK16 => ?_)
              refine g_region ?_
              refine g_step rfl (s_val (v_assign rfl) rfl rfl ?_)
              refine g_nil ?_
              refine g_next hK16 ?_
              refine g_ret ?_
              refine g_then_ret ?_
              refine g_end1 (.inl rfl) Try.results37 (.tmp rfl) [] (ASub.refl _) (AHeap.sub_refl _) (fun p hp => by cases hp) ⟨rfl, ?_⟩
              first | (rw [mvalid_eq]; first | (rw [show spValid m.sp = false by assumption]; rfl) | (rw [decide_eq_false (p := ValidP m) (by unfold ValidP; (try unfold LivesP at *); omega), Bool.false_and, Bool.and_false]; rfl); done) | (rw [mvalid_eq]; first | (rw [show spValid m.sp = false by assumption]; rfl) | (rw [decide_eq_false (p := ValidP m) (by unfold ValidP; (try unfold LivesP at *); omega), Bool.false_and, Bool.and_false]; rfl); rfl)
            · try simp only [decide_eq_true_eq, decide_eq_false_iff_not, Bool.not_eq_true', Bool.not_eq_false', Bool.not_eq_eq_eq_not, Bool.not_true, Bool.not_false, Bool.and_eq_true, Bool.or_eq_true, Bool.or_eq_false_iff, beq_iff_eq, beq_eq_false_iff_ne, ne_eq, Int.not_lt, Int.not_le, Decidable.not_not] at hg61
              refine g_step_yes (j := 24) (t := 61) rfl rfl rfl rfl (s_fieldAddr ty30 fo30_5 ty3 rfl rfl ?_)
              refine g_step_yes (j := 24) (t := 61) rfl rfl rfl rfl (s_val (v_loadl ty3 rfl rfl rfl rfl) rfl rfl ?_)
              refine g_step_yes (j := 24) (t := 61) rfl rfl rfl rfl (s_val (v_gtr rfl rfl) rfl rfl ?_)
              refine g_step rfl (s_val (v_pick_f rfl rfl) rfl rfl ?_)
              refine g_step rfl (s_val (v_move rfl) rfl rfl ?_)
              refine g_split 66 rfl (fun hg66 => ?_) (fun hg66 => ?_)
              · try simp only [decide_eq_true_eq, decide_eq_false_iff_not, Bool.not_eq_true', Bool.not_eq_false', Bool.not_eq_eq_eq_not, Bool.not_true, Bool.not_false, Bool.and_eq_true, Bool.or_eq_true, Bool.or_eq_false_iff, beq_iff_eq, beq_eq_false_iff_ne, ne_eq, Int.not_lt, Int.not_le, Decidable.not_not] at hg66
                refine g_step_no (j := 29) (t := 66) rfl rfl rfl rfl rfl rfl rfl ?_
                refine g_step_no (j := 29) (t := 66) rfl rfl rfl rfl rfl rfl rfl ?_
                refine g_step_no (j := 29) (t := 66) rfl rfl rfl rfl rfl rfl rfl ?_
                refine g_step_no (j := 29) (t := 66) rfl rfl rfl rfl rfl rfl rfl ?_
                refine g_step_und (j := 33) (t := 70) rfl rfl rfl rfl rfl rfl ?_
                refine g_step_und (j := 33) (t := 70) rfl rfl rfl rfl rfl rfl ?_
                refine g_step_und (j := 33) (t := 70) rfl rfl rfl rfl rfl rfl ?_
                refine g_step_und (j := 33) (t := 70) rfl rfl rfl rfl rfl rfl ?_
                refine g_step_no (j := 29) (t := 66) rfl rfl rfl rfl rfl rfl rfl ?_
                refine g_step rfl (s_val (v_pick_t rfl rfl) rfl rfl ?_)
                refine g_nil ?_
                refine g_next hK9 ?_
                first | refine g_keep [76] [1] [1] (keep_cons rfl keep_nil) (lkeep_cons rfl lkeep_nil) (keep_cons rfl keep_nil) rfl ?_ | refine g_keep [76] [1] [1] rfl rfl rfl rfl ?_
                refine g_cond rfl (fun _ => ?_) (fun h => by cases h)
                refine g_seq (fun K17 hK17 => ?_)
                refine g_region ?_
                refine g_step rfl (s_val (v_assign rfl) rfl rfl ?_)
                refine g_nil ?_
                refine g_next hK17 ?_
                refine g_ret ?_
                refine g_then_ret ?_
                refine g_end1 (.inl rfl) Try.results37 (.tmp rfl) [] (ASub.refl _) (AHeap.sub_refl _) (fun p hp => by cases hp) ⟨rfl, ?_⟩
                first | (rw [mvalid_eq]; first | (rw [show spValid m.sp = false by assumption]; rfl) | (rw [decide_eq_false (p := ValidP m) (by unfold ValidP; (try unfold LivesP at *); omega), Bool.false_and, Bool.and_false]; rfl); done) | (rw [mvalid_eq]; first | (rw [show spValid m.sp = false by assumption]; rfl) | (rw [decide_eq_false (p := ValidP m) (by unfold ValidP; (try unfold LivesP at *); omega), Bool.false_and, Bool.and_false]; rfl); rfl)
              · try simp only [decide_eq_true_eq, decide_eq_false_iff_not, Bool.not_eq_true', Bool.not_eq_false', Bool.not_eq_eq_eq_not, Bool.not_true, Bool.not_false, Bool.and_eq_true, Bool.or_eq_true, Bool.or_eq_false_iff, beq_iff_eq, beq_eq_false_iff_ne, ne_eq, Int.not_lt, Int.not_le, Decidable.not_not] at hg66
                refine g_step_yes (j := 29) (t := 66) rfl rfl rfl rfl (s_fieldAddr ty30 fo30_5 ty3 rfl rfl ?_)
                refine g_step_yes (j := 29) (t := 66) rfl rfl rfl rfl (s_val (v_loadl ty3 rfl rfl rfl rfl) rfl rfl ?_)
                refine g_step_yes (j := 29) (t := 66) rfl rfl rfl rfl (s_val (v_gtr rfl rfl) rfl rfl ?_)
                refine g_step_yes (j := 29) (t := 66) rfl rfl rfl rfl (s_val (v_move rfl) rfl rfl ?_)
                refine g_split 70 rfl (fun hg70 => ?_) (fun hg70 => ?_)
                · try simp only [decide_eq_true_eq, decide_eq_false_iff_not, Bool.not_eq_true', Bool.not_eq_false', Bool.not_eq_eq_eq_not, Bool.not_true, Bool.not_false, Bool.and_eq_true, Bool.or_eq_true, Bool.or_eq_false_iff, beq_iff_eq, beq_eq_false_iff_ne, ne_eq, Int.not_lt, Int.not_le, Decidable.not_not] at hg70
                  refine g_step_yes (j := 33) (t := 70) rfl rfl rfl rfl (s_fieldAddr ty30 fo30_0 ty3 rfl rfl ?_)
                  refine g_step_yes (j := 33) (t := 70) rfl rfl rfl rfl (s_val (v_loadl ty3 rfl rfl rfl rfl) rfl rfl ?_)
                  refine g_step_yes (j := 33) (t := 70) rfl rfl rfl rfl (s_callp rfl rfl rfl (has17_ok m.kind 1 _) ?_)
                  rintro _ rfl
                  rw [has10_1]
                  refine g_step_yes (j := 33) (t := 70) rfl rfl rfl rfl (s_val (v_not rfl) rfl rfl ?_)
                  refine g_step_yes (j := 29) (t := 66) rfl rfl rfl rfl (s_val (v_pick_t rfl rfl) rfl rfl ?_)
                  refine g_step rfl (s_val (v_pick_f rfl rfl) rfl rfl ?_)
                  refine g_nil ?_
                  refine g_next hK9 ?_
                  first | refine g_keep [76] [1] [1] (keep_cons rfl keep_nil) (lkeep_cons rfl lkeep_nil) (keep_cons rfl keep_nil) rfl ?_ | refine g_keep [76] [1] [1] rfl rfl rfl rfl ?_
                  refine g_cond rfl (fun hc76 => ?_) (fun hc76 => ?_)
                  · try simp only [decide_eq_true_eq, decide_eq_false_iff_not, Bool.not_eq_true', Bool.not_eq_false', Bool.not_eq_eq_eq_not, Bool.not_true, Bool.not_false, Bool.and_eq_true, Bool.or_eq_true, Bool.or_eq_false_iff, beq_iff_eq, beq_eq_false_iff_ne, ne_eq, Int.not_lt, Int.not_le, Decidable.not_not] at hc76
                    refine g_seq (fun K18 hK18 => ?_)
                    refine g_region ?_
                    refine g_step rfl (s_val (v_assign rfl) rfl rfl ?_)
                    refine g_nil ?_
                    refine g_next hK18 ?_
                    refine g_ret ?_
                    refine g_then_ret ?_
                    refine g_end1 (.inl rfl) Try.results37 (.tmp rfl) [] (ASub.refl _) (AHeap.sub_refl _) (fun p hp => by cases hp) ⟨rfl, ?_⟩
                    first | (rw [mvalid_eq]; first | (rw [show spValid m.sp = false by assumption]; rfl) | (rw [decide_eq_false (p := ValidP m) (by unfold ValidP; (try unfold LivesP at *); omega), Bool.false_and, Bool.and_false]; rfl); done) | (rw [mvalid_eq]; first | (rw [show spValid m.sp = false by assumption]; rfl) | (rw [decide_eq_false (p := ValidP m) (by unfold ValidP; (try unfold LivesP at *); omega), Bool.false_and, Bool.and_false]; rfl); rfl)
                  · try simp only [decide_eq_true_eq, decide_eq_false_iff_not, Bool.not_eq_true', Bool.not_eq_false', Bool.not_eq_eq_eq_not, Bool.not_true, Bool.not_false, Bool.and_eq_true, Bool.or_eq_true, Bool.or_eq_false_iff, beq_iff_eq, beq_eq_false_iff_ne, ne_eq, Int.not_lt, Int.not_le, Decidable.not_not] at hc76
                    refine g_skip ?_
                    first | refine g_keep [] [1] [1] keep_nil (lkeep_cons rfl lkeep_nil) (keep_cons rfl keep_nil) rfl ?_ | refine g_keep [] [1] [1] rfl rfl rfl rfl ?_
                    exact g_has ⟨rfl, rfl, rfl, rfl, ⟨by assumption, by omega⟩⟩
                · try simp only [decide_eq_true_eq, decide_eq_false_iff_not, Bool.not_eq_true', Bool.not_eq_false', Bool.not_eq_eq_eq_not, Bool.not_true, Bool.not_false, Bool.and_eq_true, Bool.or_eq_true, Bool.or_eq_false_iff, beq_iff_eq, beq_eq_false_iff_ne, ne_eq, Int.not_lt, Int.not_le, Decidable.not_not] at hg70
                  refine g_step_no (j := 33) (t := 70) rfl rfl rfl rfl rfl rfl rfl ?_
                  refine g_step_no (j := 33) (t := 70) rfl rfl rfl rfl rfl rfl rfl ?_
                  refine g_step_no (j := 33) (t := 70) rfl rfl rfl rfl rfl rfl rfl ?_
                  refine g_step_no (j := 33) (t := 70) rfl rfl rfl rfl rfl rfl rfl ?_
                  refine g_step_yes (j := 29) (t := 66) rfl rfl rfl rfl (s_val (v_pick_f rfl rfl) rfl rfl ?_)
                  refine g_step rfl (s_val (v_pick_f rfl rfl) rfl rfl ?_)
                  refine g_nil ?_
                  refine g_next hK9 ?_
                  first | refine g_keep [76] [1] [1] (keep_cons rfl keep_nil) (lkeep_cons rfl lkeep_nil) (keep_cons rfl keep_nil) rfl ?_ | refine g_keep [76] [1] [1] rfl rfl rfl rfl ?_
                  refine g_cond rfl (fun h => by cases h) (fun _ => ?_)
                  refine g_skip ?_
                  first | refine g_keep [] [1] [1] keep_nil (lkeep_cons rfl lkeep_nil) (keep_cons rfl keep_nil) rfl ?_ | refine g_keep [] [1] [1] rfl rfl rfl rfl ?_
                  exact g_has ⟨rfl, rfl, rfl, rfl, ⟨by assumption, by omega⟩⟩
    · skip
      obtain ⟨rfl, rfl, rfl, rfl, hsp, hA⟩ := hI
      refine g_cut (fun env L B G => env = [] ∧ L = [(1, 1, 0)] ∧ B = [(1, encM m)] ∧ H = G ∧ spValid m.sp = true ∧ ((1 ≤ m.kind ∧ m.kind ≤ 9 ∧ 0 ≤ m.frm ∧ m.frm ≤ 4095 ∧ 0 ≤ m.inc ∧ m.inc ≤ 281474976710655) ∧ (0 ≤ m.seq ∧ m.seq ≤ 65535 ∧ (0 < m.seq → m.kind = 1 ∨ m.kind = 2 ∨ m.kind = 4 ∨ m.kind = 5 ∨ m.kind = 6)) ∧ (0 ≤ m.target ∧ m.target ≤ 4095 ∧ (0 < m.target → m.kind = 3 ∨ m.kind = 6)) ∧ (m.kind = 3 → 1 ≤ m.target ∧ m.target ≤ 3))) ?_ (fun env L B G hI => ?_)
      · skip
        refine g_seq (fun K19 hK19 => ?_)
        refine g_region ?_
        refine g_step rfl (s_fieldAddr ty30 fo30_0 ty3 rfl rfl ?_)
        refine g_step rfl (s_val (v_loadl ty3 rfl rfl rfl rfl) rfl rfl ?_)
        refine g_step rfl (s_val (v_eql rfl rfl) rfl rfl ?_)
        refine g_step rfl (s_val (v_move rfl) rfl rfl ?_)
        refine g_split 80 rfl (fun hg80 => ?_) (fun hg80 => ?_)
        · try simp only [decide_eq_true_eq, decide_eq_false_iff_not, Bool.not_eq_true', Bool.not_eq_false', Bool.not_eq_eq_eq_not, Bool.not_true, Bool.not_false, Bool.and_eq_true, Bool.or_eq_true, Bool.or_eq_false_iff, beq_iff_eq, beq_eq_false_iff_ne, ne_eq, Int.not_lt, Int.not_le, Decidable.not_not] at hg80
          refine g_step_yes (j := 3) (t := 80) rfl rfl rfl rfl (s_fieldAddr ty30 fo30_5 ty3 rfl rfl ?_)
          refine g_step_yes (j := 3) (t := 80) rfl rfl rfl rfl (s_val (v_loadl ty3 rfl rfl rfl rfl) rfl rfl ?_)
          refine g_step_yes (j := 3) (t := 80) rfl rfl rfl rfl (s_val (v_lss rfl rfl) rfl rfl ?_)
          refine g_step_yes (j := 3) (t := 80) rfl rfl rfl rfl (s_val (v_move rfl) rfl rfl ?_)
          refine g_split 84 rfl (fun hg84 => ?_) (fun hg84 => ?_)
          · try simp only [decide_eq_true_eq, decide_eq_false_iff_not, Bool.not_eq_true', Bool.not_eq_false', Bool.not_eq_eq_eq_not, Bool.not_true, Bool.not_false, Bool.and_eq_true, Bool.or_eq_true, Bool.or_eq_false_iff, beq_iff_eq, beq_eq_false_iff_ne, ne_eq, Int.not_lt, Int.not_le, Decidable.not_not] at hg84
            refine g_step_no (j := 7) (t := 84) rfl rfl rfl rfl rfl rfl rfl ?_
            refine g_step_no (j := 7) (t := 84) rfl rfl rfl rfl rfl rfl rfl ?_
            refine g_step_no (j := 7) (t := 84) rfl rfl rfl rfl rfl rfl rfl ?_
            refine g_step_yes (j := 3) (t := 80) rfl rfl rfl rfl (s_val (v_pick_t rfl rfl) rfl rfl ?_)
            refine g_step rfl (s_val (v_pick_t rfl rfl) rfl rfl ?_)
            refine g_nil ?_
            refine g_next hK19 ?_
            refine g_cond rfl (fun _ => ?_) (fun h => by cases h)
            refine g_seq (fun K20 hK20 => ?_)
            refine g_region ?_
            refine g_step rfl (s_val (v_assign rfl) rfl rfl ?_)
            refine g_nil ?_
            refine g_next hK20 ?_
            refine g_ret ?_
            refine g_then_ret ?_
            refine g_end1 (.inl rfl) Try.results37 (.tmp rfl) [] (ASub.refl _) (AHeap.sub_refl _) (fun p hp => by cases hp) ⟨rfl, ?_⟩
            first | (rw [mvalid_eq]; first | (rw [show spValid m.sp = false by assumption]; rfl) | (rw [decide_eq_false (p := ValidP m) (by unfold ValidP; (try unfold LivesP at *); omega), Bool.false_and, Bool.and_false]; rfl); done) | (rw [mvalid_eq]; first | (rw [show spValid m.sp = false by assumption]; rfl) | (rw [decide_eq_false (p := ValidP m) (by unfold ValidP; (try unfold LivesP at *); omega), Bool.false_and, Bool.and_false]; rfl); rfl)
          · try simp only [decide_eq_true_eq, decide_eq_false_iff_not, Bool.not_eq_true', Bool.not_eq_false', Bool.not_eq_eq_eq_not, Bool.not_true, Bool.not_false, Bool.and_eq_true, Bool.or_eq_true, Bool.or_eq_false_iff, beq_iff_eq, beq_eq_false_iff_ne, ne_eq, Int.not_lt, Int.not_le, Decidable.not_not] at hg84
            refine g_step_yes (j := 7) (t := 84) rfl rfl rfl rfl (s_fieldAddr ty30 fo30_5 ty3 rfl rfl ?_)
            refine g_step_yes (j := 7) (t := 84) rfl rfl rfl rfl (s_val (v_loadl ty3 rfl rfl rfl rfl) rfl rfl ?_)
            refine g_step_yes (j := 7) (t := 84) rfl rfl rfl rfl (s_val (v_gtr rfl rfl) rfl rfl ?_)
            refine g_step_yes (j := 3) (t := 80) rfl rfl rfl rfl (s_val (v_pick_f rfl rfl) rfl rfl ?_)
            refine g_step rfl (s_val (v_pick_t rfl rfl) rfl rfl ?_)
            refine g_nil ?_
            refine g_next hK19 ?_
            refine g_cond rfl (fun hc89 => ?_) (fun hc89 => ?_)
            · try simp only [decide_eq_true_eq, decide_eq_false_iff_not, Bool.not_eq_true', Bool.not_eq_false', Bool.not_eq_eq_eq_not, Bool.not_true, Bool.not_false, Bool.and_eq_true, Bool.or_eq_true, Bool.or_eq_false_iff, beq_iff_eq, beq_eq_false_iff_ne, ne_eq, Int.not_lt, Int.not_le, Decidable.not_not] at hc89
              refine g_seq (fun K21 hK21 => ?_)
              refine g_region ?_
              refine g_step rfl (s_val (v_assign rfl) rfl rfl ?_)
              refine g_nil ?_
              refine g_next hK21 ?_
              refine g_ret ?_
              refine g_then_ret ?_
              refine g_end1 (.inl rfl) Try.results37 (.tmp rfl) [] (ASub.refl _) (AHeap.sub_refl _) (fun p hp => by cases hp) ⟨rfl, ?_⟩
              first | (rw [mvalid_eq]; first | (rw [show spValid m.sp = false by assumption]; rfl) | (rw [decide_eq_false (p := ValidP m) (by unfold ValidP; (try unfold LivesP at *); omega), Bool.false_and, Bool.and_false]; rfl); done) | (rw [mvalid_eq]; first | (rw [show spValid m.sp = false by assumption]; rfl) | (rw [decide_eq_false (p := ValidP m) (by unfold ValidP; (try unfold LivesP at *); omega), Bool.false_and, Bool.and_false]; rfl); rfl)
            · try simp only [decide_eq_true_eq, decide_eq_false_iff_not, Bool.not_eq_true', Bool.not_eq_false', Bool.not_eq_eq_eq_not, Bool.not_true, Bool.not_false, Bool.and_eq_true, Bool.or_eq_true, Bool.or_eq_false_iff, beq_iff_eq, beq_eq_false_iff_ne, ne_eq, Int.not_lt, Int.not_le, Decidable.not_not] at hc89
              refine g_skip ?_
              first | refine g_keep [] [1] [1] keep_nil (lkeep_cons rfl lkeep_nil) (keep_cons rfl keep_nil) rfl ?_ | refine g_keep [] [1] [1] rfl rfl rfl rfl ?_
              exact g_has ⟨rfl, rfl, rfl, rfl, ⟨by assumption, by omega⟩⟩
        · try simp only [decide_eq_true_eq, decide_eq_false_iff_not, Bool.not_eq_true', Bool.not_eq_false', Bool.not_eq_eq_eq_not, Bool.not_true, Bool.not_false, Bool.and_eq_true, Bool.or_eq_true, Bool.or_eq_false_iff, beq_iff_eq, beq_eq_false_iff_ne, ne_eq, Int.not_lt, Int.not_le, Decidable.not_not] at hg80
          refine g_step_no (j := 3) (t := 80) rfl rfl rfl rfl rfl rfl rfl ?_
          refine g_step_no (j := 3) (t := 80) rfl rfl rfl rfl rfl rfl rfl ?_
          refine g_step_no (j := 3) (t := 80) rfl rfl rfl rfl rfl rfl rfl ?_
          refine g_step_no (j := 3) (t := 80) rfl rfl rfl rfl rfl rfl rfl ?_
          refine g_step_und (j := 7) (t := 84) rfl rfl rfl rfl rfl rfl ?_
          refine g_step_und (j := 7) (t := 84) rfl rfl rfl rfl rfl rfl ?_
          refine g_step_und (j := 7) (t := 84) rfl rfl rfl rfl rfl rfl ?_
          refine g_step_no (j := 3) (t := 80) rfl rfl rfl rfl rfl rfl rfl ?_
          refine g_step rfl (s_val (v_pick_f rfl rfl) rfl rfl ?_)
          refine g_nil ?_
          refine g_next hK19 ?_
          refine g_cond rfl (fun h => by cases h) (fun _ => ?_)
          refine g_skip ?_
          first | refine g_keep [] [1] [1] keep_nil (lkeep_cons rfl lkeep_nil) (keep_cons rfl keep_nil) rfl ?_ | refine g_keep [] [1] [1] rfl rfl rfl rfl ?_
          exact g_has ⟨rfl, rfl, rfl, rfl, ⟨by assumption, by omega⟩⟩
      · skip
        obtain ⟨rfl, rfl, rfl, rfl, hsp, hA⟩ := hI
        refine g_cut (fun env L B G => env = [] ∧ L = [(1, 1, 0)] ∧ B = [(1, encM m)] ∧ H = G ∧ spValid m.sp = true ∧ ((1 ≤ m.kind ∧ m.kind ≤ 9 ∧ 0 ≤ m.frm ∧ m.frm ≤ 4095 ∧ 0 ≤ m.inc ∧ m.inc ≤ 281474976710655) ∧ (0 ≤ m.seq ∧ m.seq ≤ 65535 ∧ (0 < m.seq → m.kind = 1 ∨ m.kind = 2 ∨ m.kind = 4 ∨ m.kind = 5 ∨ m.kind = 6)) ∧ (0 ≤ m.target ∧ m.target ≤ 4095 ∧ (0 < m.target → m.kind = 3 ∨ m.kind = 6)) ∧ (m.kind = 3 → 1 ≤ m.target ∧ m.target ≤ 3) ∧ (0 ≤ m.life ∧ m.life ≤ 281474976710655 ∧ 0 ≤ m.epoch ∧ m.epoch ≤ 65535 ∧ 0 ≤ m.base))) ?_ (fun env L B G hI => ?_)
        · skip
          refine g_seq (fun K22 hK22 => ?_)
          refine g_region ?_
          refine g_step rfl (s_fieldAddr ty30 fo30_6 ty3 rfl rfl ?_)
          refine g_step rfl (s_val (v_loadl ty3 rfl rfl rfl rfl) rfl rfl ?_)
          refine g_step rfl (s_val (v_lss rfl rfl) rfl rfl ?_)
          refine g_step rfl (s_val (v_move rfl) rfl rfl ?_)
          refine g_split 93 rfl (fun hg93 => ?_) (fun hg93 => ?_)
          · try simp only [decide_eq_true_eq, decide_eq_false_iff_not, Bool.not_eq_true', Bool.not_eq_false', Bool.not_eq_eq_eq_not, Bool.not_true, Bool.not_false, Bool.and_eq_true, Bool.or_eq_true, Bool.or_eq_false_iff, beq_iff_eq, beq_eq_false_iff_ne, ne_eq, Int.not_lt, Int.not_le, Decidable.not_not] at hg93
            refine g_step_no (j := 3) (t := 93) rfl rfl rfl rfl rfl rfl rfl ?_
            refine g_step_no (j := 3) (t := 93) rfl rfl rfl rfl rfl rfl rfl ?_
            refine g_step_no (j := 3) (t := 93) rfl rfl rfl rfl rfl rfl rfl ?_
            refine g_step rfl (s_val (v_pick_t rfl rfl) rfl rfl ?_)
            refine g_step rfl (s_val (v_move rfl) rfl rfl ?_)
            refine g_step_no (j := 8) (t := 98) rfl rfl rfl rfl rfl rfl rfl ?_
            refine g_step_no (j := 8) (t := 98) rfl rfl rfl rfl rfl rfl rfl ?_
            refine g_step_no (j := 8) (t := 98) rfl rfl rfl rfl rfl rfl rfl ?_
            refine g_step rfl (s_val (v_pick_t rfl rfl) rfl rfl ?_)
            refine g_step rfl (s_val (v_move rfl) rfl rfl ?_)
            refine g_step_no (j := 13) (t := 103) rfl rfl rfl rfl rfl rfl rfl ?_
            refine g_step_no (j := 13) (t := 103) rfl rfl rfl rfl rfl rfl rfl ?_
            refine g_step_no (j := 13) (t := 103) rfl rfl rfl rfl rfl rfl rfl ?_
            refine g_step rfl (s_val (v_pick_t rfl rfl) rfl rfl ?_)
            refine g_step rfl (s_val (v_move rfl) rfl rfl ?_)
            refine g_step_no (j := 18) (t := 108) rfl rfl rfl rfl rfl rfl rfl ?_
            refine g_step_no (j := 18) (t := 108) rfl rfl rfl rfl rfl rfl rfl ?_
            refine g_step_no (j := 18) (t := 108) rfl rfl rfl rfl rfl rfl rfl ?_
            refine g_step rfl (s_val (v_pick_t rfl rfl) rfl rfl ?_)
            refine g_nil ?_
            refine g_next hK22 ?_
            refine g_cond rfl (fun _ => ?_) (fun h => by cases h)
            refine g_seq (fun K23 hK23 => ?_)
            refine g_region ?_
            refine g_step rfl (s_val (v_assign rfl) rfl rfl ?_)
            refine g_nil ?_
            refine g_next hK23 ?_
            refine g_ret ?_
            refine g_then_ret ?_
            refine g_end1 (.inl rfl) Try.results37 (.tmp rfl) [] (ASub.refl _) (AHeap.sub_refl _) (fun p hp => by cases hp) ⟨rfl, ?_⟩
            first | (rw [mvalid_eq]; first | (rw [show spValid m.sp = false by assumption]; rfl) | (rw [decide_eq_false (p := ValidP m) (by unfold ValidP; (try unfold LivesP at *); omega), Bool.false_and, Bool.and_false]; rfl); done) | (rw [mvalid_eq]; first | (rw [show spValid m.sp = false by assumption]; rfl) | (rw [decide_eq_false (p := ValidP m) (by unfold ValidP; (try unfold LivesP at *); omega), Bool.false_and, Bool.and_false]; rfl); rfl)
          · try simp only [decide_eq_true_eq, decide_eq_false_iff_not, Bool.not_eq_true', Bool.not_eq_false', Bool.not_eq_eq_eq_not, Bool.not_true, Bool.not_false, Bool.and_eq_true, Bool.or_eq_true, Bool.or_eq_false_iff, beq_iff_eq, beq_eq_false_iff_ne, ne_eq, Int.not_lt, Int.not_le, Decidable.not_not] at hg93
            refine g_step_yes (j := 3) (t := 93) rfl rfl rfl rfl (s_fieldAddr ty30 fo30_6 ty3 rfl rfl ?_)
            refine g_step_yes (j := 3) (t := 93) rfl rfl rfl rfl (s_val (v_loadl ty3 rfl rfl rfl rfl) rfl rfl ?_)
            refine g_step_yes (j := 3) (t := 93) rfl rfl rfl rfl (s_val (v_gtr rfl rfl) rfl rfl ?_)
            refine g_step rfl (s_val (v_pick_f rfl rfl) rfl rfl ?_)
            refine g_step rfl (s_val (v_move rfl) rfl rfl ?_)
            refine g_split 98 rfl (fun hg98 => ?_) (fun hg98 => ?_)
            · try simp only [decide_eq_true_eq, decide_eq_false_iff_not, Bool.not_eq_true', Bool.not_eq_false', Bool.not_eq_eq_eq_not, Bool.not_true, Bool.not_false, Bool.and_eq_true, Bool.or_eq_true, Bool.or_eq_false_iff, beq_iff_eq, beq_eq_false_iff_ne, ne_eq, Int.not_lt, Int.not_le, Decidable.not_not] at hg98
              refine g_step_no (j := 8) (t := 98) rfl rfl rfl rfl rfl rfl rfl ?_
              refine g_step_no (j := 8) (t := 98) rfl rfl rfl rfl rfl rfl rfl ?_
              refine g_step_no (j := 8) (t := 98) rfl rfl rfl rfl rfl rfl rfl ?_
              refine g_step rfl (s_val (v_pick_t rfl rfl) rfl rfl ?_)
              refine g_step rfl (s_val (v_move rfl) rfl rfl ?_)
              refine g_step_no (j := 13) (t := 103) rfl rfl rfl rfl rfl rfl rfl ?_
              refine g_step_no (j := 13) (t := 103) rfl rfl rfl rfl rfl rfl rfl ?_
              refine g_step_no (j := 13) (t := 103) rfl rfl rfl rfl rfl rfl rfl ?_
              refine g_step rfl (s_val (v_pick_t rfl rfl) rfl rfl ?_)
              refine g_step rfl (s_val (v_move rfl) rfl rfl ?_)
              refine g_step_no (j := 18) (t := 108) rfl rfl rfl rfl rfl rfl rfl ?_
              refine g_step_no (j := 18) (t := 108) rfl rfl rfl rfl rfl rfl rfl ?_
              refine g_step_no (j := 18) (t := 108) rfl rfl rfl rfl rfl rfl rfl ?_
              refine g_step rfl (s_val (v_pick_t rfl rfl) rfl rfl ?_)
              refine g_nil ?_
              refine g_next hK22 ?_
              refine g_cond rfl (fun _ => ?_) (fun h => by cases h)
              refine g_seq (fun K24 hK24 => ?_)
              refine g_region ?_
              refine g_step rfl (s_val (v_assign rfl) rfl rfl ?_)
              refine g_nil ?_
              refine g_next hK24 ?_
              refine g_ret ?_
              refine g_then_ret ?_
              refine g_end1 (.inl rfl) Try.results37 (.tmp rfl) [] (ASub.refl _) (AHeap.sub_refl _) (fun p hp => by cases hp) ⟨rfl, ?_⟩
              first | (rw [mvalid_eq]; first | (rw [show spValid m.sp = false by assumption]; rfl) | (rw [decide_eq_false (p := ValidP m) (by unfold ValidP; (try unfold LivesP at *); omega), Bool.false_and, Bool.and_false]; rfl); done) | (rw [mvalid_eq]; first | (rw [show spValid m.sp = false by assumption]; rfl) | (rw [decide_eq_false (p := ValidP m) (by unfold ValidP; (try unfold LivesP at *); omega), Bool.false_and, Bool.and_false]; rfl); rfl)
            · try simp only [decide_eq_true_eq, decide_eq_false_iff_not, Bool.not_eq_true', Bool.not_eq_false', Bool.not_eq_eq_eq_not, Bool.not_true, Bool.not_false, Bool.and_eq_true, Bool.or_eq_true, Bool.or_eq_false_iff, beq_iff_eq, beq_eq_false_iff_ne, ne_eq, Int.not_lt, Int.not_le, Decidable.not_not] at hg98
              refine g_step_yes (j := 8) (t := 98) rfl rfl rfl rfl (s_fieldAddr ty30 fo30_7 ty3 rfl rfl ?_)
              refine g_step_yes (j := 8) (t := 98) rfl rfl rfl rfl (s_val (v_loadl ty3 rfl rfl rfl rfl) rfl rfl ?_)
              refine g_step_yes (j := 8) (t := 98) rfl rfl rfl rfl (s_val (v_lss rfl rfl) rfl rfl ?_)
              refine g_step rfl (s_val (v_pick_f rfl rfl) rfl rfl ?_)
              refine g_step rfl (s_val (v_move rfl) rfl rfl ?_)
              refine g_split 103 rfl (fun hg103 => ?_) (fun hg103 => ?_)
              · try simp only [decide_eq_true_eq, decide_eq_false_iff_not, Bool.not_eq_true', Bool.not_eq_false', Bool.not_eq_eq_eq_not, Bool.not_true, Bool.not_false, Bool.and_eq_true, Bool.or_eq_true, Bool.or_eq_false_iff, beq_iff_eq, beq_eq_false_iff_ne, ne_eq, Int.not_lt, Int.not_le, Decidable.not_not] at hg103
                refine g_step_no (j := 13) (t := 103) rfl rfl rfl rfl rfl rfl rfl ?_
                refine g_step_no (j := 13) (t := 103) rfl rfl rfl rfl rfl rfl rfl ?_
                refine g_step_no (j := 13) (t := 103) rfl rfl rfl rfl rfl rfl rfl ?_
                refine g_step rfl (s_val (v_pick_t rfl rfl) rfl rfl ?_)
                refine g_step rfl (s_val (v_move rfl) rfl rfl ?_)
                refine g_step_no (j := 18) (t := 108) rfl rfl rfl rfl rfl rfl rfl ?_
                refine g_step_no (j := 18) (t := 108) rfl rfl rfl rfl rfl rfl rfl ?_
                refine g_step_no (j := 18) (t := 108) rfl rfl rfl rfl rfl rfl rfl ?_
                refine g_step rfl (s_val (v_pick_t rfl rfl) rfl rfl ?_)
                refine g_nil ?_
                refine g_next hK22 ?_
                refine g_cond rfl (fun _ => ?_) (fun h => by cases h)
                refine g_seq (fun K25 hK25 => ?_)
                refine g_region ?_
                refine g_step rfl (s_val (v_assign rfl) rfl rfl ?_)
                refine g_nil ?_
                refine g_next hK25 ?_
                refine g_ret ?_
                refine g_then_ret ?_
                refine g_end1 (.inl rfl) Try.results37 (.tmp rfl) [] (ASub.refl _) (AHeap.sub_refl _) (fun p hp => by cases hp) ⟨rfl, ?_⟩
                first | (rw [mvalid_eq]; first | (rw [show spValid m.sp = false by assumption]; rfl) | (rw [decide_eq_false (p := ValidP m) (by unfold ValidP; (try unfold LivesP at *); omega), Bool.false_and, Bool.and_false]; rfl); done) | (rw [mvalid_eq]; first | (rw [show spValid m.sp = false by assumption]; rfl) | (rw [decide_eq_false (p := ValidP m) (by unfold ValidP; (try unfold LivesP at *); omega), Bool.false_and, Bool.and_false]; rfl); rfl)
              · try simp only [decide_eq_true_eq, decide_eq_false_iff_not, Bool.not_eq_true', Bool.not_eq_false', Bool.not_eq_eq_eq_not, Bool.not_true, Bool.not_false, Bool.and_eq_true, Bool.or_eq_true, Bool.or_eq_false_iff, beq_iff_eq, beq_eq_false_iff_ne, ne_eq, Int.not_lt, Int.not_le, Decidable.not_not] at hg103
                refine g_step_yes (j := 13) (t := 103) rfl rfl rfl rfl (s_fieldAddr ty30 fo30_7 ty3 rfl rfl ?_)
                refine g_step_yes (j := 13) (t := 103) rfl rfl rfl rfl (s_val (v_loadl ty3 rfl rfl rfl rfl) rfl rfl ?_)
                refine g_step_yes (j := 13) (t := 103) rfl rfl rfl rfl (s_val (v_gtr rfl rfl) rfl rfl ?_)
                refine g_step rfl (s_val (v_pick_f rfl rfl) rfl rfl ?_)
                refine g_step rfl (s_val (v_move rfl) rfl rfl ?_)
                refine g_split 108 rfl (fun hg108 => ?_) (fun hg108 => ?_)
                · try simp only [decide_eq_true_eq, decide_eq_false_iff_not, Bool.not_eq_true', Bool.not_eq_false', Bool.not_eq_eq_eq_not, Bool.not_true, Bool.not_false, Bool.and_eq_true, Bool.or_eq_true, Bool.or_eq_false_iff, beq_iff_eq, beq_eq_false_iff_ne, ne_eq, Int.not_lt, Int.not_le, Decidable.not_not] at hg108
                  refine g_step_no (j := 18) (t := 108) rfl rfl rfl rfl rfl rfl rfl ?_
                  refine g_step_no (j := 18) (t := 108) rfl rfl rfl rfl rfl rfl rfl ?_
                  refine g_step_no (j := 18) (t := 108) rfl rfl rfl rfl rfl rfl rfl ?_
                  refine g_step rfl (s_val (v_pick_t rfl rfl) rfl rfl ?_)
                  refine g_nil ?_
                  refine g_next hK22 ?_
                  refine g_cond rfl (fun _ => ?_) (fun h => by cases h)
                  refine g_seq (fun K26 hK26 => ?_)
                  refine g_region ?_
                  refine g_step rfl (s_val (v_assign rfl) rfl rfl ?_)
                  refine g_nil ?_
                  refine g_next hK26 ?_
                  refine g_ret ?_
                  refine g_then_ret ?_
                  refine g_end1 (.inl rfl) Try.results37 (.tmp rfl) [] (ASub.refl _) (AHeap.sub_refl _) (fun p hp => by cases hp) ⟨rfl, ?_⟩
                  first | (rw [mvalid_eq]; first | (rw [show spValid m.sp = false by assumption]; rfl) | (rw [decide_eq_false (p := ValidP m) (by unfold ValidP; (try unfold LivesP at *); omega), Bool.false_and, Bool.and_false]; rfl); done) | (rw [mvalid_eq]; first | (rw [show spValid m.sp = false by assumption]; rfl) | (rw [decide_eq_false (p := ValidP m) (by unfold ValidP; (try unfold LivesP at *); omega), Bool.false_and, Bool.and_false]; rfl); rfl)
                · try simp only [decide_eq_true_eq, decide_eq_false_iff_not, Bool.not_eq_true', Bool.not_eq_false', Bool.not_eq_eq_eq_not, Bool.not_true, Bool.not_false, Bool.and_eq_true, Bool.or_eq_true, Bool.or_eq_false_iff, beq_iff_eq, beq_eq_false_iff_ne, ne_eq, Int.not_lt, Int.not_le, Decidable.not_not] at hg108
                  refine g_step_yes (j := 18) (t := 108) rfl rfl rfl rfl (s_fieldAddr ty30 fo30_8 ty3 rfl rfl ?_)
                  refine g_step_yes (j := 18) (t := 108) rfl rfl rfl rfl (s_val (v_loadl ty3 rfl rfl rfl rfl) rfl rfl ?_)
                  refine g_step_yes (j := 18) (t := 108) rfl rfl rfl rfl (s_val (v_lss rfl rfl) rfl rfl ?_)
                  refine g_step rfl (s_val (v_pick_f rfl rfl) rfl rfl ?_)
                  refine g_nil ?_
                  refine g_next hK22 ?_
                  refine g_cond rfl (fun hc112 => ?_) (fun hc112 => ?_)
                  · try simp only [decide_eq_true_eq, decide_eq_false_iff_not, Bool.not_eq_true', Bool.not_eq_false', Bool.not_eq_eq_eq_not, Bool.not_true, Bool.not_false, Bool.and_eq_true, Bool.or_eq_true, Bool.or_eq_false_iff, beq_iff_eq, beq_eq_false_iff_ne, ne_eq, Int.not_lt, Int.not_le, Decidable.not_not] at hc112
                    refine g_seq (fun K27 hK27 => ?_)
                    refine g_region ?_
                    refine g_step rfl (s_val (v_assign rfl) rfl rfl ?_)
                    refine g_nil ?_
                    refine g_next hK27 ?_
                    refine g_ret ?_
                    refine g_then_ret ?_
                    refine g_end1 (.inl rfl) Try.results37 (.tmp rfl) [] (ASub.refl _) (AHeap.sub_refl _) (fun p hp => by cases hp) ⟨rfl, ?_⟩
                    first | (rw [mvalid_eq]; first | (rw [show spValid m.sp = false by assumption]; rfl) | (rw [decide_eq_false (p := ValidP m) (by unfold ValidP; (try unfold LivesP at *); omega), Bool.false_and, Bool.and_false]; rfl); done) | (rw [mvalid_eq]; first | (rw [show spValid m.sp = false by assumption]; rfl) | (rw [decide_eq_false (p := ValidP m) (by unfold ValidP; (try unfold LivesP at *); omega), Bool.false_and, Bool.and_false]; rfl); rfl)
                  · try simp only [decide_eq_true_eq, decide_eq_false_iff_not, Bool.not_eq_true', Bool.not_eq_false', Bool.not_eq_eq_eq_not, Bool.not_true, Bool.not_false, Bool.and_eq_true, Bool.or_eq_true, Bool.or_eq_false_iff, beq_iff_eq, beq_eq_false_iff_ne, ne_eq, Int.not_lt, Int.not_le, Decidable.not_not] at hc112
                    refine g_skip ?_
                    first | refine g_keep [] [1] [1] keep_nil (lkeep_cons rfl lkeep_nil) (keep_cons rfl keep_nil) rfl ?_ | refine g_keep [] [1] [1] rfl rfl rfl rfl ?_
                    exact g_has ⟨rfl, rfl, rfl, rfl, ⟨by assumption, by omega⟩⟩
        · skip
          obtain ⟨rfl, rfl, rfl, rfl, hsp, hA⟩ := hI
          refine g_cut (fun env L B G => env = [] ∧ L = [(1, 1, 0)] ∧ B = [(1, encM m)] ∧ H = G ∧ spValid m.sp = true ∧ ((1 ≤ m.kind ∧ m.kind ≤ 9 ∧ 0 ≤ m.frm ∧ m.frm ≤ 4095 ∧ 0 ≤ m.inc ∧ m.inc ≤ 281474976710655) ∧ (0 ≤ m.seq ∧ m.seq ≤ 65535 ∧ (0 < m.seq → m.kind = 1 ∨ m.kind = 2 ∨ m.kind = 4 ∨ m.kind = 5 ∨ m.kind = 6)) ∧ (0 ≤ m.target ∧ m.target ≤ 4095 ∧ (0 < m.target → m.kind = 3 ∨ m.kind = 6)) ∧ (m.kind = 3 → 1 ≤ m.target ∧ m.target ≤ 3) ∧ (0 ≤ m.life ∧ m.life ≤ 281474976710655 ∧ 0 ≤ m.epoch ∧ m.epoch ≤ 65535 ∧ 0 ≤ m.base) ∧ (m.kind ≤ 6 → m.life = 0 ∧ m.epoch = 0) ∧ (m.epoch = 0 → m.life = 0) ∧ (m.kind = 9 → m.epoch ≠ 0))) ?_ (fun env L B G hI => ?_)
          · skip
            refine g_seq (fun K28 hK28 => ?_)
            refine g_region ?_
            refine g_step rfl (s_fieldAddr ty30 fo30_0 ty3 rfl rfl ?_)
            refine g_step rfl (s_val (v_loadl ty3 rfl rfl rfl rfl) rfl rfl ?_)
            refine g_step rfl (s_callp rfl rfl rfl (has17_ok m.kind 2 _) ?_)
            rintro _ rfl
            rw [has10_2]
            refine g_step rfl (s_val (v_not rfl) rfl rfl ?_)
            refine g_step rfl (s_val (v_move rfl) rfl rfl ?_)
            refine g_split 117 rfl (fun hg117 => ?_) (fun hg117 => ?_)
            · try simp only [decide_eq_true_eq, decide_eq_false_iff_not, Bool.not_eq_true', Bool.not_eq_false', Bool.not_eq_eq_eq_not, Bool.not_true, Bool.not_false, Bool.and_eq_true, Bool.or_eq_true, Bool.or_eq_false_iff, beq_iff_eq, beq_eq_false_iff_ne, ne_eq, Int.not_lt, Int.not_le, Decidable.not_not] at hg117
              refine g_step_yes (j := 4) (t := 117) rfl rfl rfl rfl (s_fieldAddr ty30 fo30_6 ty3 rfl rfl ?_)
              refine g_step_yes (j := 4) (t := 117) rfl rfl rfl rfl (s_val (v_loadl ty3 rfl rfl rfl rfl) rfl rfl ?_)
              refine g_step_yes (j := 4) (t := 117) rfl rfl rfl rfl (s_val (v_gtr rfl rfl) rfl rfl ?_)
              refine g_step_yes (j := 4) (t := 117) rfl rfl rfl rfl (s_val (v_move rfl) rfl rfl ?_)
              refine g_split 121 rfl (fun hg121 => ?_) (fun hg121 => ?_)
              · try simp only [decide_eq_true_eq, decide_eq_false_iff_not, Bool.not_eq_true', Bool.not_eq_false', Bool.not_eq_eq_eq_not, Bool.not_true, Bool.not_false, Bool.and_eq_true, Bool.or_eq_true, Bool.or_eq_false_iff, beq_iff_eq, beq_eq_false_iff_ne, ne_eq, Int.not_lt, Int.not_le, Decidable.not_not] at hg121
                refine g_step_no (j := 8) (t := 121) rfl rfl rfl rfl rfl rfl rfl ?_
                refine g_step_no (j := 8) (t := 121) rfl rfl rfl rfl rfl rfl rfl ?_
                refine g_step_no (j := 8) (t := 121) rfl rfl rfl rfl rfl rfl rfl ?_
                refine g_step_yes (j := 4) (t := 117) rfl rfl rfl rfl (s_val (v_pick_t rfl rfl) rfl rfl ?_)
                refine g_step rfl (s_val (v_pick_t rfl rfl) rfl rfl ?_)
                refine g_step rfl (s_val (v_move rfl) rfl rfl ?_)
                refine g_step_no (j := 14) (t := 127) rfl rfl rfl rfl rfl rfl rfl ?_
                refine g_step_no (j := 14) (t := 127) rfl rfl rfl rfl rfl rfl rfl ?_
                refine g_step_no (j := 14) (t := 127) rfl rfl rfl rfl rfl rfl rfl ?_
                refine g_step_no (j := 14) (t := 127) rfl rfl rfl rfl rfl rfl rfl ?_
                refine g_step_und (j := 18) (t := 131) rfl rfl rfl rfl rfl rfl ?_
                refine g_step_und (j := 18) (t := 131) rfl rfl rfl rfl rfl rfl ?_
                refine g_step_und (j := 18) (t := 131) rfl rfl rfl rfl rfl rfl ?_
                refine g_step_no (j := 14) (t := 127) rfl rfl rfl rfl rfl rfl rfl ?_
                refine g_step rfl (s_val (v_pick_t rfl rfl) rfl rfl ?_)
                refine g_step rfl (s_val (v_move rfl) rfl rfl ?_)
                refine g_step_no (j := 24) (t := 137) rfl rfl rfl rfl rfl rfl rfl ?_
                refine g_step_no (j := 24) (t := 137) rfl rfl rfl rfl rfl rfl rfl ?_
                refine g_step_no (j := 24) (t := 137) rfl rfl rfl rfl rfl rfl rfl ?_
                refine g_step_no (j := 24) (t := 137) rfl rfl rfl rfl rfl rfl rfl ?_
                refine g_step_und (j := 28) (t := 141) rfl rfl rfl rfl rfl rfl ?_
                refine g_step_und (j := 28) (t := 141) rfl rfl rfl rfl rfl rfl ?_
                refine g_step_und (j := 28) (t := 141) rfl rfl rfl rfl rfl rfl ?_
                refine g_step_no (j := 24) (t := 137) rfl rfl rfl rfl rfl rfl rfl ?_
                refine g_step rfl (s_val (v_pick_t rfl rfl) rfl rfl ?_)
                refine g_nil ?_
                refine g_next hK28 ?_
                first | refine g_keep [146] [1] [1] (keep_cons rfl keep_nil) (lkeep_cons rfl lkeep_nil) (keep_cons rfl keep_nil) rfl ?_ | refine g_keep [146] [1] [1] rfl rfl rfl rfl ?_
                refine g_cond rfl (fun _ => ?_) (fun h => by cases h)
                refine g_seq (fun K29 hK29 => ?_)
                refine g_region ?_
                refine g_step rfl (s_val (v_assign rfl) rfl rfl ?_)
                refine g_nil ?_
                refine g_next hK29 ?_
                refine g_ret ?_
                refine g_then_ret ?_
                refine g_end1 (.inl rfl) Try.results37 (.tmp rfl) [] (ASub.refl _) (AHeap.sub_refl _) (fun p hp => by cases hp) ⟨rfl, ?_⟩
                first | (rw [mvalid_eq]; first | (rw [show spValid m.sp = false by assumption]; rfl) | (rw [decide_eq_false (p := ValidP m) (by unfold ValidP; (try unfold LivesP at *); omega), Bool.false_and, Bool.and_false]; rfl); done) | (rw [mvalid_eq]; first | (rw [show spValid m.sp = false by assumption]; rfl) | (rw [decide_eq_false (p := ValidP m) (by unfold ValidP; (try unfold LivesP at *); omega), Bool.false_and, Bool.and_false]; rfl); rfl)
              · try simp only [decide_eq_true_eq, decide_eq_false_iff_not, Bool.not_eq_true', Bool.not_eq_false', Bool.not_eq_eq_eq_not, Bool.not_true, Bool.not_false, Bool.and_eq_true, Bool.or_eq_true, Bool.or_eq_false_iff, beq_iff_eq, beq_eq_false_iff_ne, ne_eq, Int.not_lt, Int.not_le, Decidable.not_not] at hg121
                refine g_step_yes (j := 8) (t := 121) rfl rfl rfl rfl (s_fieldAddr ty30 fo30_7 ty3 rfl rfl ?_)
                refine g_step_yes (j := 8) (t := 121) rfl rfl rfl rfl (s_val (v_loadl ty3 rfl rfl rfl rfl) rfl rfl ?_)
                refine g_step_yes (j := 8) (t := 121) rfl rfl rfl rfl (s_val (v_gtr rfl rfl) rfl rfl ?_)
                refine g_step_yes (j := 4) (t := 117) rfl rfl rfl rfl (s_val (v_pick_f rfl rfl) rfl rfl ?_)
                refine g_step rfl (s_val (v_pick_t rfl rfl) rfl rfl ?_)
                refine g_step rfl (s_val (v_move rfl) rfl rfl ?_)
                refine g_split 127 rfl (fun hg127 => ?_) (fun hg127 => ?_)
                · try simp only [decide_eq_true_eq, decide_eq_false_iff_not, Bool.not_eq_true', Bool.not_eq_false', Bool.not_eq_eq_eq_not, Bool.not_true, Bool.not_false, Bool.and_eq_true, Bool.or_eq_true, Bool.or_eq_false_iff, beq_iff_eq, beq_eq_false_iff_ne, ne_eq, Int.not_lt, Int.not_le, Decidable.not_not] at hg127
                  refine g_step_no (j := 14) (t := 127) rfl rfl rfl rfl rfl rfl rfl ?_
                  refine g_step_no (j := 14) (t := 127) rfl rfl rfl rfl rfl rfl rfl ?_
                  refine g_step_no (j := 14) (t := 127) rfl rfl rfl rfl rfl rfl rfl ?_
                  refine g_step_no (j := 14) (t := 127) rfl rfl rfl rfl rfl rfl rfl ?_
                  refine g_step_und (j := 18) (t := 131) rfl rfl rfl rfl rfl rfl ?_
                  refine g_step_und (j := 18) (t := 131) rfl rfl rfl rfl rfl rfl ?_
                  refine g_step_und (j := 18) (t := 131) rfl rfl rfl rfl rfl rfl ?_
                  refine g_step_no (j := 14) (t := 127) rfl rfl rfl rfl rfl rfl rfl ?_
                  refine g_step rfl (s_val (v_pick_t rfl rfl) rfl rfl ?_)
                  refine g_step rfl (s_val (v_move rfl) rfl rfl ?_)
                  refine g_step_no (j := 24) (t := 137) rfl rfl rfl rfl rfl rfl rfl ?_
                  refine g_step_no (j := 24) (t := 137) rfl rfl rfl rfl rfl rfl rfl ?_
                  refine g_step_no (j := 24) (t := 137) rfl rfl rfl rfl rfl rfl rfl ?_
                  refine g_step_no (j := 24) (t := 137) rfl rfl rfl rfl rfl rfl rfl ?_
                  refine g_step_und (j := 28) (t := 141) rfl rfl rfl rfl rfl rfl ?_
                  refine g_step_und (j := 28) (t := 141) rfl rfl rfl rfl rfl rfl ?_
                  refine g_step_und (j := 28) (t := 141) rfl rfl rfl rfl rfl rfl ?_
                  refine g_step_no (j := 24) (t := 137) rfl rfl rfl rfl rfl rfl rfl ?_
                  refine g_step rfl (s_val (v_pick_t rfl rfl) rfl rfl ?_)
                  refine g_nil ?_
                  refine g_next hK28 ?_
                  first | refine g_keep [146] [1] [1] (keep_cons rfl keep_nil) (lkeep_cons rfl lkeep_nil) (keep_cons rfl keep_nil) rfl ?_ | refine g_keep [146] [1] [1] rfl rfl rfl rfl ?_
                  refine g_cond rfl (fun _ => ?_) (fun h => by cases h)
                  refine g_seq (fun K30 hK30 => ?_)
                  refine g_region ?_
                  refine g_step rfl (s_val (v_assign rfl) rfl rfl ?_)
                  refine g_nil ?_
                  refine g_next hK30 ?_
                  refine g_ret ?_
                  refine g_then_ret ?_
                  refine g_end1 (.inl rfl) Try.results37 (.tmp rfl) [] (ASub.refl _) (AHeap.sub_refl _) (fun p hp => by cases hp) ⟨rfl, ?_⟩
                  first | (rw [mvalid_eq]; first | (rw [show spValid m.sp = false by assumption]; rfl) | (rw [decide_eq_false (p := ValidP m) (by unfold ValidP; (try unfold LivesP at *); omega), Bool.false_and, Bool.and_false]; rfl); done) | (rw [mvalid_eq]; first | (rw [show spValid m.sp = false by assumption]; rfl) | (rw [decide_eq_false (p := ValidP m) (by unfold ValidP; (try unfold LivesP at *); omega), Bool.false_and, Bool.and_false]; rfl); rfl)
                · try simp only [decide_eq_true_eq, decide_eq_false_iff_not, Bool.not_eq_true', Bool.not_eq_false', Bool.not_eq_eq_eq_not, Bool.not_true, Bool.not_false, Bool.and_eq_true, Bool.or_eq_true, Bool.or_eq_false_iff, beq_iff_eq, beq_eq_false_iff_ne, ne_eq, Int.not_lt, Int.not_le, Decidable.not_not] at hg127
                  refine g_step_yes (j := 14) (t := 127) rfl rfl rfl rfl (s_fieldAddr ty30 fo30_7 ty3 rfl rfl ?_)
                  refine g_step_yes (j := 14) (t := 127) rfl rfl rfl rfl (s_val (v_loadl ty3 rfl rfl rfl rfl) rfl rfl ?_)
                  refine g_step_yes (j := 14) (t := 127) rfl rfl rfl rfl (s_val (v_eql rfl rfl) rfl rfl ?_)
                  refine g_step_yes (j := 14) (t := 127) rfl rfl rfl rfl (s_val (v_move rfl) rfl rfl ?_)
                  refine g_split 131 rfl (fun hg131 => ?_) (fun hg131 => ?_)
                  · try simp only [decide_eq_true_eq, decide_eq_false_iff_not, Bool.not_eq_true', Bool.not_eq_false', Bool.not_eq_eq_eq_not, Bool.not_true, Bool.not_false, Bool.and_eq_true, Bool.or_eq_true, Bool.or_eq_false_iff, beq_iff_eq, beq_eq_false_iff_ne, ne_eq, Int.not_lt, Int.not_le, Decidable.not_not] at hg131
                    refine g_step_yes (j := 18) (t := 131) rfl rfl rfl rfl (s_fieldAddr ty30 fo30_6 ty3 rfl rfl ?_)
                    refine g_step_yes (j := 18) (t := 131) rfl rfl rfl rfl (s_val (v_loadl ty3 rfl rfl rfl rfl) rfl rfl ?_)
                    refine g_step_yes (j := 18) (t := 131) rfl rfl rfl rfl (s_val (v_gtr rfl rfl) rfl rfl ?_)
                    refine g_step_yes (j := 14) (t := 127) rfl rfl rfl rfl (s_val (v_pick_t rfl rfl) rfl rfl ?_)
                    refine g_step rfl (s_val (v_pick_f rfl rfl) rfl rfl ?_)
                    refine g_step rfl (s_val (v_move rfl) rfl rfl ?_)
                    refine g_split 137 rfl (fun hg137 => ?_) (fun hg137 => ?_)
                    · try simp only [decide_eq_true_eq, decide_eq_false_iff_not, Bool.not_eq_true', Bool.not_eq_false', Bool.not_eq_eq_eq_not, Bool.not_true, Bool.not_false, Bool.and_eq_true, Bool.or_eq_true, Bool.or_eq_false_iff, beq_iff_eq, beq_eq_false_iff_ne, ne_eq, Int.not_lt, Int.not_le, Decidable.not_not] at hg137
                      refine g_step_no (j := 24) (t := 137) rfl rfl rfl rfl rfl rfl rfl ?_
                      refine g_step_no (j := 24) (t := 137) rfl rfl rfl rfl rfl rfl rfl ?_
                      refine g_step_no (j := 24) (t := 137) rfl rfl rfl rfl rfl rfl rfl ?_
                      refine g_step_no (j := 24) (t := 137) rfl rfl rfl rfl rfl rfl rfl ?_
                      refine g_step_und (j := 28) (t := 141) rfl rfl rfl rfl rfl rfl ?_
                      refine g_step_und (j := 28) (t := 141) rfl rfl rfl rfl rfl rfl ?_
                      refine g_step_und (j := 28) (t := 141) rfl rfl rfl rfl rfl rfl ?_
                      refine g_step_no (j := 24) (t := 137) rfl rfl rfl rfl rfl rfl rfl ?_
                      refine g_step rfl (s_val (v_pick_t rfl rfl) rfl rfl ?_)
                      refine g_nil ?_
                      refine g_next hK28 ?_
                      first | refine g_keep [146] [1] [1] (keep_cons rfl keep_nil) (lkeep_cons rfl lkeep_nil) (keep_cons rfl keep_nil) rfl ?_ | refine g_keep [146] [1] [1] rfl rfl rfl rfl ?_
                      refine g_cond rfl (fun _ => ?_) (fun h => by cases h)
                      refine g_seq (fun K31 hK31 => ?_)
                      refine g_region ?_
                      refine g_step rfl (s_val (v_assign rfl) rfl rfl ?_)
                      refine g_nil ?_
                      refine g_next hK31 ?_
                      refine g_ret ?_
                      refine g_then_ret ?_
                      refine g_end1 (.inl rfl) Try.results37 (.tmp rfl) [] (ASub.refl _) (AHeap.sub_refl _) (fun p hp => by cases hp) ⟨rfl, ?_⟩
                      first | (rw [mvalid_eq]; first | (rw [show spValid m.sp = false by assumption]; rfl) | (rw [decide_eq_false (p := ValidP m) (by unfold ValidP; (try unfold LivesP at *); omega), Bool.false_and, Bool.and_false]; rfl); done) | (rw [mvalid_eq]; first | (rw [show spValid m.sp = false by assumption]; rfl) | (rw [decide_eq_false (p := ValidP m) (by unfold ValidP; (try unfold LivesP at *); omega), Bool.false_and, Bool.and_false]; rfl); rfl)
                    · try simp only [decide_eq_true_eq, decide_eq_false_iff_not, Bool.not_eq_true', Bool.not_eq_false', Bool.not_eq_eq_eq_not, Bool.not_true, Bool.not_false, Bool.and_eq_true, Bool.or_eq_true, Bool.or_eq_false_iff, beq_iff_eq, beq_eq_false_iff_ne, ne_eq, Int.not_lt, Int.not_le, Decidable.not_not] at hg137
                      refine g_step_yes (j := 24) (t := 137) rfl rfl rfl rfl (s_fieldAddr ty30 fo30_0 ty3 rfl rfl ?_)
                      refine g_step_yes (j := 24) (t := 137) rfl rfl rfl rfl (s_val (v_loadl ty3 rfl rfl rfl rfl) rfl rfl ?_)
                      refine g_step_yes (j := 24) (t := 137) rfl rfl rfl rfl (s_val (v_eql rfl rfl) rfl rfl ?_)
                      refine g_step_yes (j := 24) (t := 137) rfl rfl rfl rfl (s_val (v_move rfl) rfl rfl ?_)
                      refine g_split 141 rfl (fun hg141 => ?_) (fun hg141 => ?_)
                      · try simp only [decide_eq_true_eq, decide_eq_false_iff_not, Bool.not_eq_true', Bool.not_eq_false', Bool.not_eq_eq_eq_not, Bool.not_true, Bool.not_false, Bool.and_eq_true, Bool.or_eq_true, Bool.or_eq_false_iff, beq_iff_eq, beq_eq_false_iff_ne, ne_eq, Int.not_lt, Int.not_le, Decidable.not_not] at hg141
                        refine g_step_yes (j := 28) (t := 141) rfl rfl rfl rfl (s_fieldAddr ty30 fo30_7 ty3 rfl rfl ?_)
                        refine g_step_yes (j := 28) (t := 141) rfl rfl rfl rfl (s_val (v_loadl ty3 rfl rfl rfl rfl) rfl rfl ?_)
                        refine g_step_yes (j := 28) (t := 141) rfl rfl rfl rfl (s_val (v_eql rfl rfl) rfl rfl ?_)
                        refine g_step_yes (j := 24) (t := 137) rfl rfl rfl rfl (s_val (v_pick_t rfl rfl) rfl rfl ?_)
                        refine g_step rfl (s_val (v_pick_f rfl rfl) rfl rfl ?_)
                        refine g_nil ?_
                        refine g_next hK28 ?_
                        first | refine g_keep [146] [1] [1] (keep_cons rfl keep_nil) (lkeep_cons rfl lkeep_nil) (keep_cons rfl keep_nil) rfl ?_ | refine g_keep [146] [1] [1] rfl rfl rfl rfl ?_
                        refine g_cond rfl (fun hc146 => ?_) (fun hc146 => ?_)
                        · try simp only [decide_eq_true_eq, decide_eq_false_iff_not, Bool.not_eq_true', Bool.not_eq_false', Bool.not_eq_eq_eq_not, Bool.not_true, Bool.not_false, Bool.and_eq_true, Bool.or_eq_true, Bool.or_eq_false_iff, beq_iff_eq, beq_eq_false_iff_ne, ne_eq, Int.not_lt, Int.not_le, Decidable.not_not] at hc146
                          refine g_seq (fun K32 hK32 => ?_)
                          refine g_region ?_
                          refine g_step rfl (s_val (v_assign rfl) rfl rfl ?_)
                          refine g_nil ?_
                          refine g_next hK32 ?_
                          refine g_ret ?_
                          refine g_then_ret ?_
                          refine g_end1 (.inl rfl) Try.results37 (.tmp rfl) [] (ASub.refl _) (AHeap.sub_refl _) (fun p hp => by cases hp) ⟨rfl, ?_⟩
                          first | (rw [mvalid_eq]; first | (rw [show spValid m.sp = false by assumption]; rfl) | (rw [decide_eq_false (p := ValidP m) (by unfold ValidP; (try unfold LivesP at *); omega), Bool.false_and, Bool.and_false]; rfl); done) | (rw [mvalid_eq]; first | (rw [show spValid m.sp = false by assumption]; rfl) | (rw [decide_eq_false (p := ValidP m) (by unfold ValidP; (try unfold LivesP at *); omega), Bool.false_and, Bool.and_false]; rfl); rfl)
                        · try simp only [decide_eq_true_eq, decide_eq_false_iff_not, Bool.not_eq_true', Bool.not_eq_false', Bool.not_eq_eq_eq_not, Bool.not_true, Bool.not_false, Bool.and_eq_true, Bool.or_eq_true, Bool.or_eq_false_iff, beq_iff_eq, beq_eq_false_iff_ne, ne_eq, Int.not_lt, Int.not_le, Decidable.not_not] at hc146
                          refine g_skip ?_
                          first | refine g_keep [] [1] [1] keep_nil (lkeep_cons rfl lkeep_nil) (keep_cons rfl keep_nil) rfl ?_ | refine g_keep [] [1] [1] rfl rfl rfl rfl ?_
                          exact g_has ⟨rfl, rfl, rfl, rfl, ⟨by assumption, by omega⟩⟩
                      · try simp only [decide_eq_true_eq, decide_eq_false_iff_not, Bool.not_eq_true', Bool.not_eq_false', Bool.not_eq_eq_eq_not, Bool.not_true, Bool.not_false, Bool.and_eq_true, Bool.or_eq_true, Bool.or_eq_false_iff, beq_iff_eq, beq_eq_false_iff_ne, ne_eq, Int.not_lt, Int.not_le, Decidable.not_not] at hg141
                        refine g_step_no (j := 28) (t := 141) rfl rfl rfl rfl rfl rfl rfl ?_
                        refine g_step_no (j := 28) (t := 141) rfl rfl rfl rfl rfl rfl rfl ?_
                        refine g_step_no (j := 28) (t := 141) rfl rfl rfl rfl rfl rfl rfl ?_
                        refine g_step_yes (j := 24) (t := 137) rfl rfl rfl rfl (s_val (v_pick_f rfl rfl) rfl rfl ?_)
                        refine g_step rfl (s_val (v_pick_f rfl rfl) rfl rfl ?_)
                        refine g_nil ?_
                        refine g_next hK28 ?_
                        first | refine g_keep [146] [1] [1] (keep_cons rfl keep_nil) (lkeep_cons rfl lkeep_nil) (keep_cons rfl keep_nil) rfl ?_ | refine g_keep [146] [1] [1] rfl rfl rfl rfl ?_
                        refine g_cond rfl (fun h => by cases h) (fun _ => ?_)
                        refine g_skip ?_
                        first | refine g_keep [] [1] [1] keep_nil (lkeep_cons rfl lkeep_nil) (keep_cons rfl keep_nil) rfl ?_ | refine g_keep [] [1] [1] rfl rfl rfl rfl ?_
                        exact g_has ⟨rfl, rfl, rfl, rfl, ⟨by assumption, by omega⟩⟩
                  · try simp only [decide_eq_true_eq, decide_eq_false_iff_not, Bool.not_eq_true', Bool.not_eq_false', Bool.not_eq_eq_eq_not, Bool.not_true, Bool.not_false, Bool.and_eq_true, Bool.or_eq_true, Bool.or_eq_false_iff, beq_iff_eq, beq_eq_false_iff_ne, ne_eq, Int.not_lt, Int.not_le, Decidable.not_not] at hg131
                    refine g_step_no (j := 18) (t := 131) rfl rfl rfl rfl rfl rfl rfl ?_
                    refine g_step_no (j := 18) (t := 131) rfl rfl rfl rfl rfl rfl rfl ?_
                    refine g_step_no (j := 18) (t := 131) rfl rfl rfl rfl rfl rfl rfl ?_
                    refine g_step_yes (j := 14) (t := 127) rfl rfl rfl rfl (s_val (v_pick_f rfl rfl) rfl rfl ?_)
                    refine g_step rfl (s_val (v_pick_f rfl rfl) rfl rfl ?_)
                    refine g_step rfl (s_val (v_move rfl) rfl rfl ?_)
                    refine g_step_yes (j := 24) (t := 137) rfl rfl rfl rfl (s_fieldAddr ty30 fo30_0 ty3 rfl rfl ?_)
                    refine g_step_yes (j := 24) (t := 137) rfl rfl rfl rfl (s_val (v_loadl ty3 rfl rfl rfl rfl) rfl rfl ?_)
                    refine g_step_yes (j := 24) (t := 137) rfl rfl rfl rfl (s_val (v_eql rfl rfl) rfl rfl ?_)
                    refine g_step_yes (j := 24) (t := 137) rfl rfl rfl rfl (s_val (v_move rfl) rfl rfl ?_)
                    refine g_split 141 rfl (fun hg141 => ?_) (fun hg141 => ?_)
                    · try simp only [decide_eq_true_eq, decide_eq_false_iff_not, Bool.not_eq_true', Bool.not_eq_false', Bool.not_eq_eq_eq_not, Bool.not_true, Bool.not_false, Bool.and_eq_true, Bool.or_eq_true, Bool.or_eq_false_iff, beq_iff_eq, beq_eq_false_iff_ne, ne_eq, Int.not_lt, Int.not_le, Decidable.not_not] at hg141
                      refine g_step_yes (j := 28) (t := 141) rfl rfl rfl rfl (s_fieldAddr ty30 fo30_7 ty3 rfl rfl ?_)
                      refine g_step_yes (j := 28) (t := 141) rfl rfl rfl rfl (s_val (v_loadl ty3 rfl rfl rfl rfl) rfl rfl ?_)
                      refine g_step_yes (j := 28) (t := 141) rfl rfl rfl rfl (s_val (v_eql rfl rfl) rfl rfl ?_)
                      refine g_step_yes (j := 24) (t := 137) rfl rfl rfl rfl (s_val (v_pick_t rfl rfl) rfl rfl ?_)
                      refine g_step rfl (s_val (v_pick_f rfl rfl) rfl rfl ?_)
                      refine g_nil ?_
                      refine g_next hK28 ?_
                      first | refine g_keep [146] [1] [1] (keep_cons rfl keep_nil) (lkeep_cons rfl lkeep_nil) (keep_cons rfl keep_nil) rfl ?_ | refine g_keep [146] [1] [1] rfl rfl rfl rfl ?_
                      refine g_cond rfl (fun hc146 => ?_) (fun hc146 => ?_)
                      · try simp only [decide_eq_true_eq, decide_eq_false_iff_not, Bool.not_eq_true', Bool.not_eq_false', Bool.not_eq_eq_eq_not, Bool.not_true, Bool.not_false, Bool.and_eq_true, Bool.or_eq_true, Bool.or_eq_false_iff, beq_iff_eq, beq_eq_false_iff_ne, ne_eq, Int.not_lt, Int.not_le, Decidable.not_not] at hc146
                        refine g_seq (fun K33 hK33 => ?_)
                        refine g_region ?_
                        refine g_step rfl (s_val (v_assign rfl) rfl rfl ?_)
                        refine g_nil ?_
                        refine g_next hK33 ?_
                        refine g_ret ?_
                        refine g_then_ret ?_
                        refine g_end1 (.inl rfl) Try.results37 (.tmp rfl) [] (ASub.refl _) (AHeap.sub_refl _) (fun p hp => by cases hp) ⟨rfl, ?_⟩
                        first | (rw [mvalid_eq]; first | (rw [show spValid m.sp = false by assumption]; rfl) | (rw [decide_eq_false (p := ValidP m) (by unfold ValidP; (try unfold LivesP at *); omega), Bool.false_and, Bool.and_false]; rfl); done) | (rw [mvalid_eq]; first | (rw [show spValid m.sp = false by assumption]; rfl) | (rw [decide_eq_false (p := ValidP m) (by unfold ValidP; (try unfold LivesP at *); omega), Bool.false_and, Bool.and_false]; rfl); rfl)
                      · try simp only [decide_eq_true_eq, decide_eq_false_iff_not, Bool.not_eq_true', Bool.not_eq_false', Bool.not_eq_eq_eq_not, Bool.not_true, Bool.not_false, Bool.and_eq_true, Bool.or_eq_true, Bool.or_eq_false_iff, beq_iff_eq, beq_eq_false_iff_ne, ne_eq, Int.not_lt, Int.not_le, Decidable.not_not] at hc146
                        refine g_skip ?_
                        first | refine g_keep [] [1] [1] keep_nil (lkeep_cons rfl lkeep_nil) (keep_cons rfl keep_nil) rfl ?_ | refine g_keep [] [1] [1] rfl rfl rfl rfl ?_
                        exact g_has ⟨rfl, rfl, rfl, rfl, ⟨by assumption, by omega⟩⟩
                    · try simp only [decide_eq_true_eq, decide_eq_false_iff_not, Bool.not_eq_true', Bool.not_eq_false', Bool.not_eq_eq_eq_not, Bool.not_true, Bool.not_false, Bool.and_eq_true, Bool.or_eq_true, Bool.or_eq_false_iff, beq_iff_eq, beq_eq_false_iff_ne, ne_eq, Int.not_lt, Int.not_le, Decidable.not_not] at hg141
                      refine g_step_no (j := 28) (t := 141) rfl rfl rfl rfl rfl rfl rfl ?_
                      refine g_step_no (j := 28) (t := 141) rfl rfl rfl rfl rfl rfl rfl ?_
                      refine g_step_no (j := 28) (t := 141) rfl rfl rfl rfl rfl rfl rfl ?_
                      refine g_step_yes (j := 24) (t := 137) rfl rfl rfl rfl (s_val (v_pick_f rfl rfl) rfl rfl ?_)
                      refine g_step rfl (s_val (v_pick_f rfl rfl) rfl rfl ?_)
                      refine g_nil ?_
                      refine g_next hK28 ?_
                      first | refine g_keep [146] [1] [1] (keep_cons rfl keep_nil) (lkeep_cons rfl lkeep_nil) (keep_cons rfl keep_nil) rfl ?_ | refine g_keep [146] [1] [1] rfl rfl rfl rfl ?_
                      refine g_cond rfl (fun h => by cases h) (fun _ => ?_)
                      refine g_skip ?_
                      first | refine g_keep [] [1] [1] keep_nil (lkeep_cons rfl lkeep_nil) (keep_cons rfl keep_nil) rfl ?_ | refine g_keep [] [1] [1] rfl rfl rfl rfl ?_
                      exact g_has ⟨rfl, rfl, rfl, rfl, ⟨by assumption, by omega⟩⟩
            · try simp only [decide_eq_true_eq, decide_eq_false_iff_not, Bool.not_eq_true', Bool.not_eq_false', Bool.not_eq_eq_eq_not, Bool.not_true, Bool.not_false, Bool.and_eq_true, Bool.or_eq_true, Bool.or_eq_false_iff, beq_iff_eq, beq_eq_false_iff_ne, ne_eq, Int.not_lt, Int.not_le, Decidable.not_not] at hg117
              refine g_step_no (j := 4) (t := 117) rfl rfl rfl rfl rfl rfl rfl ?_
              refine g_step_no (j := 4) (t := 117) rfl rfl rfl rfl rfl rfl rfl ?_
              refine g_step_no (j := 4) (t := 117) rfl rfl rfl rfl rfl rfl rfl ?_
              refine g_step_no (j := 4) (t := 117) rfl rfl rfl rfl rfl rfl rfl ?_
              refine g_step_und (j := 8) (t := 121) rfl rfl rfl rfl rfl rfl ?_
              refine g_step_und (j := 8) (t := 121) rfl rfl rfl rfl rfl rfl ?_
              refine g_step_und (j := 8) (t := 121) rfl rfl rfl rfl rfl rfl ?_
              refine g_step_no (j := 4) (t := 117) rfl rfl rfl rfl rfl rfl rfl ?_
              refine g_step rfl (s_val (v_pick_f rfl rfl) rfl rfl ?_)
              refine g_step rfl (s_val (v_move rfl) rfl rfl ?_)
              refine g_step_yes (j := 14) (t := 127) rfl rfl rfl rfl (s_fieldAddr ty30 fo30_7 ty3 rfl rfl ?_)
              refine g_step_yes (j := 14) (t := 127) rfl rfl rfl rfl (s_val (v_loadl ty3 rfl rfl rfl rfl) rfl rfl ?_)
              refine g_step_yes (j := 14) (t := 127) rfl rfl rfl rfl (s_val (v_eql rfl rfl) rfl rfl ?_)
              refine g_step_yes (j := 14) (t := 127) rfl rfl rfl rfl (s_val (v_move rfl) rfl rfl ?_)
              refine g_split 131 rfl (fun hg131 => ?_) (fun hg131 => ?_)
              · try simp only [decide_eq_true_eq, decide_eq_false_iff_not, Bool.not_eq_true', Bool.not_eq_false', Bool.not_eq_eq_eq_not, Bool.not_true, Bool.not_false, Bool.and_eq_true, Bool.or_eq_true, Bool.or_eq_false_iff, beq_iff_eq, beq_eq_false_iff_ne, ne_eq, Int.not_lt, Int.not_le, Decidable.not_not] at hg131
                refine g_step_yes (j := 18) (t := 131) rfl rfl rfl rfl (s_fieldAddr ty30 fo30_6 ty3 rfl rfl ?_)
                refine g_step_yes (j := 18) (t := 131) rfl rfl rfl rfl (s_val (v_loadl ty3 rfl rfl rfl rfl) rfl rfl ?_)
                refine g_step_yes (j := 18) (t := 131) rfl rfl rfl rfl (s_val (v_gtr rfl rfl) rfl rfl ?_)
                refine g_step_yes (j := 14) (t := 127) rfl rfl rfl rfl (s_val (v_pick_t rfl rfl) rfl rfl ?_)
                refine g_step rfl (s_val (v_pick_f rfl rfl) rfl rfl ?_)
                refine g_step rfl (s_val (v_move rfl) rfl rfl ?_)
                refine g_split 137 rfl (fun hg137 => ?_) (fun hg137 => ?_)
                · try simp only [decide_eq_true_eq, decide_eq_false_iff_not, Bool.not_eq_true', Bool.not_eq_false', Bool.not_eq_eq_eq_not, Bool.not_true, Bool.not_false, Bool.and_eq_true, Bool.or_eq_true, Bool.or_eq_false_iff, beq_iff_eq, beq_eq_false_iff_ne, ne_eq, Int.not_lt, Int.not_le, Decidable.not_not] at hg137
                  refine g_step_no (j := 24) (t := 137) rfl rfl rfl rfl rfl rfl rfl ?_
                  refine g_step_no (j := 24) (t := 137) rfl rfl rfl rfl rfl rfl rfl ?_
                  refine g_step_no (j := 24) (t := 137) rfl rfl rfl rfl rfl rfl rfl ?_
                  refine g_step_no (j := 24) (t := 137) rfl rfl rfl rfl rfl rfl rfl ?_
                  refine g_step_und (j := 28) (t := 141) rfl rfl rfl rfl rfl rfl ?_
                  refine g_step_und (j := 28) (t := 141) rfl rfl rfl rfl rfl rfl ?_
                  refine g_step_und (j := 28) (t := 141) rfl rfl rfl rfl rfl rfl ?_
                  refine g_step_no (j := 24) (t := 137) rfl rfl rfl rfl rfl rfl rfl ?_
                  refine g_step rfl (s_val (v_pick_t rfl rfl) rfl rfl ?_)
                  refine g_nil ?_
                  refine g_next hK28 ?_
                  first | refine g_keep [146] [1] [1] (keep_cons rfl keep_nil) (lkeep_cons rfl lkeep_nil) (keep_cons rfl keep_nil) rfl ?_ | refine g_keep [146] [1] [1] rfl rfl rfl rfl ?_
                  refine g_cond rfl (fun _ => ?_) (fun h => by cases h)
                  refine g_seq (fun K34 hK34 => ?_)
                  refine g_region ?_
                  refine g_step rfl (s_val (v_assign rfl) rfl rfl ?_)
                  refine g_nil ?_
                  refine g_next hK34 ?_
                  refine g_ret ?_
                  refine g_then_ret ?_
                  refine g_end1 (.inl rfl) Try.results37 (.tmp rfl) [] (ASub.refl _) (AHeap.sub_refl _) (fun p hp => by cases hp) ⟨rfl, ?_⟩
                  first | (rw [mvalid_eq]; first | (rw [show spValid m.sp = false by assumption]; rfl) | (rw [decide_eq_false (p := ValidP m) (by unfold ValidP; (try unfold LivesP at *); omega), Bool.false_and, Bool.and_false]; rfl); done) | (rw [mvalid_eq]; first | (rw [show spValid m.sp = false by assumption]; rfl) | (rw [decide_eq_false (p := ValidP m) (by unfold ValidP; (try unfold LivesP at *); omega), Bool.false_and, Bool.and_false]; rfl); rfl)
                · try simp only [decide_eq_true_eq, decide_eq_false_iff_not, Bool.not_eq_true', Bool.not_eq_false', Bool.not_eq_eq_eq_not, Bool.not_true, Bool.not_false, Bool.and_eq_true, Bool.or_eq_true, Bool.or_eq_false_iff, beq_iff_eq, beq_eq_false_iff_ne, ne_eq, Int.not_lt, Int.not_le, Decidable.not_not] at hg137
                  refine g_step_yes (j := 24) (t := 137) rfl rfl rfl rfl (s_fieldAddr ty30 fo30_0 ty3 rfl rfl ?_)
                  refine g_step_yes (j := 24) (t := 137) rfl rfl rfl rfl (s_val (v_loadl ty3 rfl rfl rfl rfl) rfl rfl ?_)
                  refine g_step_yes (j := 24) (t := 137) rfl rfl rfl rfl (s_val (v_eql rfl rfl) rfl rfl ?_)
                  refine g_step_yes (j := 24) (t := 137) rfl rfl rfl rfl (s_val (v_move rfl) rfl rfl ?_)
                  refine g_split 141 rfl (fun hg141 => ?_) (fun hg141 => ?_)
                  · try simp only [decide_eq_true_eq, decide_eq_false_iff_not, Bool.not_eq_true', Bool.not_eq_false', Bool.not_eq_eq_eq_not, Bool.not_true, Bool.not_false, Bool.and_eq_true, Bool.or_eq_true, Bool.or_eq_false_iff, beq_iff_eq, beq_eq_false_iff_ne, ne_eq, Int.not_lt, Int.not_le, Decidable.not_not] at hg141
                    refine g_step_yes (j := 28) (t := 141) rfl rfl rfl rfl (s_fieldAddr ty30 fo30_7 ty3 rfl rfl ?_)
                    refine g_step_yes (j := 28) (t := 141) rfl rfl rfl rfl (s_val (v_loadl ty3 rfl rfl rfl rfl) rfl rfl ?_)
                    refine g_step_yes (j := 28) (t := 141) rfl rfl rfl rfl (s_val (v_eql rfl rfl) rfl rfl ?_)
                    refine g_step_yes (j := 24) (t := 137) rfl rfl rfl rfl (s_val (v_pick_t rfl rfl) rfl rfl ?_)
                    refine g_step rfl (s_val (v_pick_f rfl rfl) rfl rfl ?_)
                    refine g_nil ?_
                    refine g_next hK28 ?_
                    first | refine g_keep [146] [1] [1] (keep_cons rfl keep_nil) (lkeep_cons rfl lkeep_nil) (keep_cons rfl keep_nil) rfl ?_ | refine g_keep [146] [1] [1] rfl rfl rfl rfl ?_
                    refine g_cond rfl (fun hc146 => ?_) (fun hc146 => ?_)
                    · try simp only [decide_eq_true_eq, decide_eq_false_iff_not, Bool.not_eq_true', Bool.not_eq_false', Bool.not_eq_eq_eq_not, Bool.not_true, Bool.not_false, Bool.and_eq_true, Bool.or_eq_true, Bool.or_eq_false_iff, beq_iff_eq, beq_eq_false_iff_ne, ne_eq, Int.not_lt, Int.not_le, Decidable.not_not] at hc146
                      refine g_seq (fun K35 hK35 => ?_)
                      refine g_region ?_
                      refine g_step rfl (s_val (v_assign rfl) rfl rfl ?_)
                      refine g_nil ?_
                      refine g_next hK35 ?_
                      refine g_ret ?_
                      refine g_then_ret ?_
                      refine g_end1 (.inl rfl) Try.results37 (.tmp rfl) [] (ASub.refl _) (AHeap.sub_refl _) (fun p hp => by cases hp) ⟨rfl, ?_⟩
                      first | (rw [mvalid_eq]; first | (rw [show spValid m.sp = false by assumption]; rfl) | (rw [decide_eq_false (p := ValidP m) (by unfold ValidP; (try unfold LivesP at *); omega), Bool.false_and, Bool.and_false]; rfl); done) | (rw [mvalid_eq]; first | (rw [show spValid m.sp = false by assumption]; rfl) | (rw [decide_eq_false (p := ValidP m) (by unfold ValidP; (try unfold LivesP at *); omega), Bool.false_and, Bool.and_false]; rfl); rfl)
                    · try simp only [decide_eq_true_eq, decide_eq_false_iff_not, Bool.not_eq_true', Bool.not_eq_false', Bool.not_eq_eq_eq_not, Bool.not_true, Bool.not_false, Bool.and_eq_true, Bool.or_eq_true, Bool.or_eq_false_iff, beq_iff_eq, beq_eq_false_iff_ne, ne_eq, Int.not_lt, Int.not_le, Decidable.not_not] at hc146
                      refine g_skip ?_
                      first | refine g_keep [] [1] [1] keep_nil (lkeep_cons rfl lkeep_nil) (keep_cons rfl keep_nil) rfl ?_ | refine g_keep [] [1] [1] rfl rfl rfl rfl ?_
                      exact g_has ⟨rfl, rfl, rfl, rfl, ⟨by assumption, by omega⟩⟩
                  · try simp only [decide_eq_true_eq, decide_eq_false_iff_not, Bool.not_eq_true', Bool.not_eq_false', Bool.not_eq_eq_eq_not, Bool.not_true, Bool.not_false, Bool.and_eq_true, Bool.or_eq_true, Bool.or_eq_false_iff, beq_iff_eq, beq_eq_false_iff_ne, ne_eq, Int.not_lt, Int.not_le, Decidable.not_not] at hg141
                    refine g_step_no (j := 28) (t := 141) rfl rfl rfl rfl rfl rfl rfl ?_
                    refine g_step_no (j := 28) (t := 141) rfl rfl rfl rfl rfl rfl rfl ?_
                    refine g_step_no (j := 28) (t := 141) rfl rfl rfl rfl rfl rfl rfl ?_
                    refine g_step_yes (j := 24) (t := 137) rfl rfl rfl rfl (s_val (v_pick_f rfl rfl) rfl rfl ?_)
                    refine g_step rfl (s_val (v_pick_f rfl rfl) rfl rfl ?_)
                    refine g_nil ?_
                    refine g_next hK28 ?_
                    first | refine g_keep [146] [1] [1] (keep_cons rfl keep_nil) (lkeep_cons rfl lkeep_nil) (keep_cons rfl keep_nil) rfl ?_ | refine g_keep [146] [1] [1] rfl rfl rfl rfl ?_
                    refine g_cond rfl (fun h => by cases h) (fun _ => ?_)
                    refine g_skip ?_
                    first | refine g_keep [] [1] [1] keep_nil (lkeep_cons rfl lkeep_nil) (keep_cons rfl keep_nil) rfl ?_ | refine g_keep [] [1] [1] rfl rfl rfl rfl ?_
                    exact g_has ⟨rfl, rfl, rfl, rfl, ⟨by assumption, by omega⟩⟩
              · try simp only [decide_eq_true_eq, decide_eq_false_iff_not, Bool.not_eq_true', Bool.not_eq_false', Bool.not_eq_eq_eq_not, Bool.not_true, Bool.not_false, Bool.and_eq_true, Bool.or_eq_true, Bool.or_eq_false_iff, beq_iff_eq, beq_eq_false_iff_ne, ne_eq, Int.not_lt, Int.not_le, Decidable.not_not] at hg131
                refine g_step_no (j := 18) (t := 131) rfl rfl rfl rfl rfl rfl rfl ?_
                refine g_step_no (j := 18) (t := 131) rfl rfl rfl rfl rfl rfl rfl ?_
                refine g_step_no (j := 18) (t := 131) rfl rfl rfl rfl rfl rfl rfl ?_
                refine g_step_yes (j := 14) (t := 127) rfl rfl rfl rfl (s_val (v_pick_f rfl rfl) rfl rfl ?_)
                refine g_step rfl (s_val (v_pick_f rfl rfl) rfl rfl ?_)
                refine g_step rfl (s_val (v_move rfl) rfl rfl ?_)
                refine g_step_yes (j := 24) (t := 137) rfl rfl rfl rfl (s_fieldAddr ty30 fo30_0 ty3 rfl rfl ?_)
                refine g_step_yes (j := 24) (t := 137) rfl rfl rfl rfl (s_val (v_loadl ty3 rfl rfl rfl rfl) rfl rfl ?_)
                refine g_step_yes (j := 24) (t := 137) rfl rfl rfl rfl (s_val (v_eql rfl rfl) rfl rfl ?_)
                refine g_step_yes (j := 24) (t := 137) rfl rfl rfl rfl (s_val (v_move rfl) rfl rfl ?_)
                refine g_split 141 rfl (fun hg141 => ?_) (fun hg141 => ?_)
                · try simp only [decide_eq_true_eq, decide_eq_false_iff_not, Bool.not_eq_true', Bool.not_eq_false', Bool.not_eq_eq_eq_not, Bool.not_true, Bool.not_false, Bool.and_eq_true, Bool.or_eq_true, Bool.or_eq_false_iff, beq_iff_eq, beq_eq_false_iff_ne, ne_eq, Int.not_lt, Int.not_le, Decidable.not_not] at hg141
                  refine g_step_yes (j := 28) (t := 141) rfl rfl rfl rfl (s_fieldAddr ty30 fo30_7 ty3 rfl rfl ?_)
                  refine g_step_yes (j := 28) (t := 141) rfl rfl rfl rfl (s_val (v_loadl ty3 rfl rfl rfl rfl) rfl rfl ?_)
                  refine g_step_yes (j := 28) (t := 141) rfl rfl rfl rfl (s_val (v_eql rfl rfl) rfl rfl ?_)
                  refine g_step_yes (j := 24) (t := 137) rfl rfl rfl rfl (s_val (v_pick_t rfl rfl) rfl rfl ?_)
                  refine g_step rfl (s_val (v_pick_f rfl rfl) rfl rfl ?_)
                  refine g_nil ?_
                  refine g_next hK28 ?_
                  first | refine g_keep [146] [1] [1] (keep_cons rfl keep_nil) (lkeep_cons rfl lkeep_nil) (keep_cons rfl keep_nil) rfl ?_ | refine g_keep [146] [1] [1] rfl rfl rfl rfl ?_
                  refine g_cond rfl (fun hc146 => ?_) (fun hc146 => ?_)
                  · try simp only [decide_eq_true_eq, decide_eq_false_iff_not, Bool.not_eq_true', Bool.not_eq_false', Bool.not_eq_eq_eq_not, Bool.not_true, Bool.not_false, Bool.and_eq_true, Bool.or_eq_true, Bool.or_eq_false_iff, beq_iff_eq, beq_eq_false_iff_ne, ne_eq, Int.not_lt, Int.not_le, Decidable.not_not] at hc146
                    refine g_seq (fun K36 hK36 => ?_)
                    refine g_region ?_
                    refine g_step rfl (s_val (v_assign rfl) rfl rfl ?_)
                    refine g_nil ?_
                    refine g_next hK36 ?_
                    refine g_ret ?_
                    refine g_then_ret ?_
                    refine g_end1 (.inl rfl) Try.results37 (.tmp rfl) [] (ASub.refl _) (AHeap.sub_refl _) (fun p hp => by cases hp) ⟨rfl, ?_⟩
                    first | (rw [mvalid_eq]; first | (rw [show spValid m.sp = false by assumption]; rfl) | (rw [decide_eq_false (p := ValidP m) (by unfold ValidP; (try unfold LivesP at *); omega), Bool.false_and, Bool.and_false]; rfl); done) | (rw [mvalid_eq]; first | (rw [show spValid m.sp = false by assumption]; rfl) | (rw [decide_eq_false (p := ValidP m) (by unfold ValidP; (try unfold LivesP at *); omega), Bool.false_and, Bool.and_false]; rfl); rfl)
                  · try simp only [decide_eq_true_eq, decide_eq_false_iff_not, Bool.not_eq_true', Bool.not_eq_false', Bool.not_eq_eq_eq_not, Bool.not_true, Bool.not_false, Bool.and_eq_true, Bool.or_eq_true, Bool.or_eq_false_iff, beq_iff_eq, beq_eq_false_iff_ne, ne_eq, Int.not_lt, Int.not_le, Decidable.not_not] at hc146
                    refine g_skip ?_
                    first | refine g_keep [] [1] [1] keep_nil (lkeep_cons rfl lkeep_nil) (keep_cons rfl keep_nil) rfl ?_ | refine g_keep [] [1] [1] rfl rfl rfl rfl ?_
                    exact g_has ⟨rfl, rfl, rfl, rfl, ⟨by assumption, by omega⟩⟩
                · try simp only [decide_eq_true_eq, decide_eq_false_iff_not, Bool.not_eq_true', Bool.not_eq_false', Bool.not_eq_eq_eq_not, Bool.not_true, Bool.not_false, Bool.and_eq_true, Bool.or_eq_true, Bool.or_eq_false_iff, beq_iff_eq, beq_eq_false_iff_ne, ne_eq, Int.not_lt, Int.not_le, Decidable.not_not] at hg141
                  refine g_step_no (j := 28) (t := 141) rfl rfl rfl rfl rfl rfl rfl ?_
                  refine g_step_no (j := 28) (t := 141) rfl rfl rfl rfl rfl rfl rfl ?_
                  refine g_step_no (j := 28) (t := 141) rfl rfl rfl rfl rfl rfl rfl ?_
                  refine g_step_yes (j := 24) (t := 137) rfl rfl rfl rfl (s_val (v_pick_f rfl rfl) rfl rfl ?_)
                  refine g_step rfl (s_val (v_pick_f rfl rfl) rfl rfl ?_)
                  refine g_nil ?_
                  refine g_next hK28 ?_
                  first | refine g_keep [146] [1] [1] (keep_cons rfl keep_nil) (lkeep_cons rfl lkeep_nil) (keep_cons rfl keep_nil) rfl ?_ | refine g_keep [146] [1] [1] rfl rfl rfl rfl ?_
                  refine g_cond rfl (fun h => by cases h) (fun _ => ?_)
                  refine g_skip ?_
                  first | refine g_keep [] [1] [1] keep_nil (lkeep_cons rfl lkeep_nil) (keep_cons rfl keep_nil) rfl ?_ | refine g_keep [] [1] [1] rfl rfl rfl rfl ?_
                  exact g_has ⟨rfl, rfl, rfl, rfl, ⟨by assumption, by omega⟩⟩
          · skip
            obtain ⟨rfl, rfl, rfl, rfl, hsp, hA⟩ := hI
            refine g_cut (fun env L B G => env = [] ∧ L = [(1, 1, 0)] ∧ B = [(1, encM m)] ∧ H = G ∧ spValid m.sp = true ∧ ((1 ≤ m.kind ∧ m.kind ≤ 9 ∧ 0 ≤ m.frm ∧ m.frm ≤ 4095 ∧ 0 ≤ m.inc ∧ m.inc ≤ 281474976710655) ∧ (0 ≤ m.seq ∧ m.seq ≤ 65535 ∧ (0 < m.seq → m.kind = 1 ∨ m.kind = 2 ∨ m.kind = 4 ∨ m.kind = 5 ∨ m.kind = 6)) ∧ (0 ≤ m.target ∧ m.target ≤ 4095 ∧ (0 < m.target → m.kind = 3 ∨ m.kind = 6)) ∧ (m.kind = 3 → 1 ≤ m.target ∧ m.target ≤ 3) ∧ (0 ≤ m.life ∧ m.life ≤ 281474976710655 ∧ 0 ≤ m.epoch ∧ m.epoch ≤ 65535 ∧ 0 ≤ m.base) ∧ (m.kind ≤ 6 → m.life = 0 ∧ m.epoch = 0) ∧ (m.epoch = 0 → m.life = 0) ∧ (m.kind = 9 → m.epoch ≠ 0) ∧ (0 < m.base → m.kind = 7 ∧ m.base < m.epoch))) ?_ (fun env L B G hI => ?_)
            · skip
              refine g_seq (fun K37 hK37 => ?_)
              refine g_region ?_
              refine g_step rfl (s_fieldAddr ty30 fo30_8 ty3 rfl rfl ?_)
              refine g_step rfl (s_val (v_loadl ty3 rfl rfl rfl rfl) rfl rfl ?_)
              refine g_step rfl (s_val (v_gtr rfl rfl) rfl rfl ?_)
              refine g_step rfl (s_val (v_move rfl) rfl rfl ?_)
              refine g_split 150 rfl (fun hg150 => ?_) (fun hg150 => ?_)
              · try simp only [decide_eq_true_eq, decide_eq_false_iff_not, Bool.not_eq_true', Bool.not_eq_false', Bool.not_eq_eq_eq_not, Bool.not_true, Bool.not_false, Bool.and_eq_true, Bool.or_eq_true, Bool.or_eq_false_iff, beq_iff_eq, beq_eq_false_iff_ne, ne_eq, Int.not_lt, Int.not_le, Decidable.not_not] at hg150
                refine g_step_yes (j := 3) (t := 150) rfl rfl rfl rfl (s_fieldAddr ty30 fo30_0 ty3 rfl rfl ?_)
                refine g_step_yes (j := 3) (t := 150) rfl rfl rfl rfl (s_val (v_loadl ty3 rfl rfl rfl rfl) rfl rfl ?_)
                refine g_step_yes (j := 3) (t := 150) rfl rfl rfl rfl (s_val (v_neq rfl rfl) rfl rfl ?_)
                refine g_step_yes (j := 3) (t := 150) rfl rfl rfl rfl (s_val (v_move rfl) rfl rfl ?_)
                refine g_split 154 rfl (fun hg154 => ?_) (fun hg154 => ?_)
                · try simp only [decide_eq_true_eq, decide_eq_false_iff_not, Bool.not_eq_true', Bool.not_eq_false', Bool.not_eq_eq_eq_not, Bool.not_true, Bool.not_false, Bool.and_eq_true, Bool.or_eq_true, Bool.or_eq_false_iff, beq_iff_eq, beq_eq_false_iff_ne, ne_eq, Int.not_lt, Int.not_le, Decidable.not_not] at hg154
                  refine g_step_no (j := 7) (t := 154) rfl rfl rfl rfl rfl rfl rfl ?_
                  refine g_step_no (j := 7) (t := 154) rfl rfl rfl rfl rfl rfl rfl ?_
                  refine g_step_no (j := 7) (t := 154) rfl rfl rfl rfl rfl rfl rfl ?_
                  refine g_step_no (j := 7) (t := 154) rfl rfl rfl rfl rfl rfl rfl ?_
                  refine g_step_no (j := 7) (t := 154) rfl rfl rfl rfl rfl rfl rfl ?_
                  refine g_step_yes (j := 3) (t := 150) rfl rfl rfl rfl (s_val (v_pick_t rfl rfl) rfl rfl ?_)
                  refine g_step rfl (s_val (v_pick_t rfl rfl) rfl rfl ?_)
                  refine g_nil ?_
                  refine g_next hK37 ?_
                  refine g_cond rfl (fun _ => ?_) (fun h => by cases h)
                  refine g_seq (fun K38 hK38 => ?_)
                  refine g_region ?_
                  refine g_step rfl (s_val (v_assign rfl) rfl rfl ?_)
                  refine g_nil ?_
                  refine g_next hK38 ?_
                  refine g_ret ?_
                  refine g_then_ret ?_
                  refine g_end1 (.inl rfl) Try.results37 (.tmp rfl) [] (ASub.refl _) (AHeap.sub_refl _) (fun p hp => by cases hp) ⟨rfl, ?_⟩
                  first | (rw [mvalid_eq]; first | (rw [show spValid m.sp = false by assumption]; rfl) | (rw [decide_eq_false (p := ValidP m) (by unfold ValidP; (try unfold LivesP at *); omega), Bool.false_and, Bool.and_false]; rfl); done) | (rw [mvalid_eq]; first | (rw [show spValid m.sp = false by assumption]; rfl) | (rw [decide_eq_false (p := ValidP m) (by unfold ValidP; (try unfold LivesP at *); omega), Bool.false_and, Bool.and_false]; rfl); rfl)
                · try simp only [decide_eq_true_eq, decide_eq_false_iff_not, Bool.not_eq_true', Bool.not_eq_false', Bool.not_eq_eq_eq_not, Bool.not_true, Bool.not_false, Bool.and_eq_true, Bool.or_eq_true, Bool.or_eq_false_iff, beq_iff_eq, beq_eq_false_iff_ne, ne_eq, Int.not_lt, Int.not_le, Decidable.not_not] at hg154
                  refine g_step_yes (j := 7) (t := 154) rfl rfl rfl rfl (s_fieldAddr ty30 fo30_8 ty3 rfl rfl ?_)
                  refine g_step_yes (j := 7) (t := 154) rfl rfl rfl rfl (s_val (v_loadl ty3 rfl rfl rfl rfl) rfl rfl ?_)
                  refine g_step_yes (j := 7) (t := 154) rfl rfl rfl rfl (s_fieldAddr ty30 fo30_7 ty3 rfl rfl ?_)
                  refine g_step_yes (j := 7) (t := 154) rfl rfl rfl rfl (s_val (v_loadl ty3 rfl rfl rfl rfl) rfl rfl ?_)
                  refine g_step_yes (j := 7) (t := 154) rfl rfl rfl rfl (s_val (v_geq rfl rfl) rfl rfl ?_)
                  refine g_step_yes (j := 3) (t := 150) rfl rfl rfl rfl (s_val (v_pick_f rfl rfl) rfl rfl ?_)
                  refine g_step rfl (s_val (v_pick_t rfl rfl) rfl rfl ?_)
                  refine g_nil ?_
                  refine g_next hK37 ?_
                  refine g_cond rfl (fun hc161 => ?_) (fun hc161 => ?_)
                  · try simp only [decide_eq_true_eq, decide_eq_false_iff_not, Bool.not_eq_true', Bool.not_eq_false', Bool.not_eq_eq_eq_not, Bool.not_true, Bool.not_false, Bool.and_eq_true, Bool.or_eq_true, Bool.or_eq_false_iff, beq_iff_eq, beq_eq_false_iff_ne, ne_eq, Int.not_lt, Int.not_le, Decidable.not_not] at hc161
                    refine g_seq (fun K39 hK39 => ?_)
                    refine g_region ?_
                    refine g_step rfl (s_val (v_assign rfl) rfl rfl ?_)
                    refine g_nil ?_
                    refine g_next hK39 ?_
                    refine g_ret ?_
                    refine g_then_ret ?_
                    refine g_end1 (.inl rfl) Try.results37 (.tmp rfl) [] (ASub.refl _) (AHeap.sub_refl _) (fun p hp => by cases hp) ⟨rfl, ?_⟩
                    first | (rw [mvalid_eq]; first | (rw [show spValid m.sp = false by assumption]; rfl) | (rw [decide_eq_false (p := ValidP m) (by unfold ValidP; (try unfold LivesP at *); omega), Bool.false_and, Bool.and_false]; rfl); done) | (rw [mvalid_eq]; first | (rw [show spValid m.sp = false by assumption]; rfl) | (rw [decide_eq_false (p := ValidP m) (by unfold ValidP; (try unfold LivesP at *); omega), Bool.false_and, Bool.and_false]; rfl); rfl)
                  · try simp only [decide_eq_true_eq, decide_eq_false_iff_not, Bool.not_eq_true', Bool.not_eq_false', Bool.not_eq_eq_eq_not, Bool.not_true, Bool.not_false, Bool.and_eq_true, Bool.or_eq_true, Bool.or_eq_false_iff, beq_iff_eq, beq_eq_false_iff_ne, ne_eq, Int.not_lt, Int.not_le, Decidable.not_not] at hc161
                    refine g_skip ?_
                    first | refine g_keep [] [1] [1] keep_nil (lkeep_cons rfl lkeep_nil) (keep_cons rfl keep_nil) rfl ?_ | refine g_keep [] [1] [1] rfl rfl rfl rfl ?_
                    exact g_has ⟨rfl, rfl, rfl, rfl, ⟨by assumption, by omega⟩⟩
              · try simp only [decide_eq_true_eq, decide_eq_false_iff_not, Bool.not_eq_true', Bool.not_eq_false', Bool.not_eq_eq_eq_not, Bool.not_true, Bool.not_false, Bool.and_eq_true, Bool.or_eq_true, Bool.or_eq_false_iff, beq_iff_eq, beq_eq_false_iff_ne, ne_eq, Int.not_lt, Int.not_le, Decidable.not_not] at hg150
                refine g_step_no (j := 3) (t := 150) rfl rfl rfl rfl rfl rfl rfl ?_
                refine g_step_no (j := 3) (t := 150) rfl rfl rfl rfl rfl rfl rfl ?_
                refine g_step_no (j := 3) (t := 150) rfl rfl rfl rfl rfl rfl rfl ?_
                refine g_step_no (j := 3) (t := 150) rfl rfl rfl rfl rfl rfl rfl ?_
                refine g_step_und (j := 7) (t := 154) rfl rfl rfl rfl rfl rfl ?_
                refine g_step_und (j := 7) (t := 154) rfl rfl rfl rfl rfl rfl ?_
                refine g_step_und (j := 7) (t := 154) rfl rfl rfl rfl rfl rfl ?_
                refine g_step_und (j := 7) (t := 154) rfl rfl rfl rfl rfl rfl ?_
                refine g_step_und (j := 7) (t := 154) rfl rfl rfl rfl rfl rfl ?_
                refine g_step_no (j := 3) (t := 150) rfl rfl rfl rfl rfl rfl rfl ?_
                refine g_step rfl (s_val (v_pick_f rfl rfl) rfl rfl ?_)
                refine g_nil ?_
                refine g_next hK37 ?_
                refine g_cond rfl (fun h => by cases h) (fun _ => ?_)
                refine g_skip ?_
                first | refine g_keep [] [1] [1] keep_nil (lkeep_cons rfl lkeep_nil) (keep_cons rfl keep_nil) rfl ?_ | refine g_keep [] [1] [1] rfl rfl rfl rfl ?_
                exact g_has ⟨rfl, rfl, rfl, rfl, ⟨by assumption, by omega⟩⟩
            · skip
              obtain ⟨rfl, rfl, rfl, rfl, hsp, hA⟩ := hI
              refine g_seq (fun K40 hK40 => ?_)
              refine g_seq (fun K41 hK41 => ?_)
              refine g_region ?_
              refine g_step rfl (s_fieldAddr ty30 fo30_0 ty3 rfl rfl ?_)
              refine g_step rfl (s_val (v_loadl ty3 rfl rfl rfl rfl) rfl rfl ?_)
              refine g_step rfl (s_callp rfl rfl rfl (has17_ok m.kind 4 _) ?_)
              rintro _ rfl
              rw [has10_4]
              refine g_step rfl (s_val (v_not rfl) rfl rfl ?_)
              refine g_nil ?_
              refine g_next hK41 ?_
              refine g_cond rfl (fun hc165 => ?_) (fun hc165 => ?_)
              · try simp only [decide_eq_true_eq, decide_eq_false_iff_not, Bool.not_eq_true', Bool.not_eq_false', Bool.not_eq_eq_eq_not, Bool.not_true, Bool.not_false, Bool.and_eq_true, Bool.or_eq_true, Bool.or_eq_false_iff, beq_iff_eq, beq_eq_false_iff_ne, ne_eq, Int.not_lt, Int.not_le, Decidable.not_not] at hc165
                refine g_seq (fun K42 hK42 => ?_)
                refine g_region ?_
                refine g_step rfl (s_fieldAddr ty30 fo30_9 ty23 rfl rfl ?_)
                refine g_step rfl (s_val (v_loadl ty23 rfl rfl rfl rfl) rfl rfl ?_)
                refine g_step rfl (s_val (v_len ty23 rfl (by first | rfl | assumption) (by first | exact List.length_map .. | rfl)) rfl rfl ?_)
                refine g_step rfl (s_val (v_eql rfl rfl) rfl rfl ?_)
                refine g_step rfl (s_val (v_assign rfl) rfl rfl ?_)
                refine g_nil ?_
                refine g_next hK42 ?_
                refine g_ret ?_
                refine g_then_ret ?_
                refine g_end1 (.inl rfl) Try.results37 (.tmp rfl) [] (ASub.refl _) (AHeap.sub_refl _) (fun p hp => by cases hp) ⟨rfl, ?_⟩
                first | (rw [mvalid_eq, (show spValid m.sp = true by assumption), Bool.true_and, decide_eq_false (p := 4 ≤ m.kind ∧ m.kind ≤ 8) (by omega), Bool.not_false, Bool.true_or, Bool.and_true]; exact congrArg AV.bool (decide_eq_decide.2 (by unfold ValidP; (try unfold LivesP at *); omega)); done) | (rw [mvalid_eq, (show spValid m.sp = true by assumption), Bool.true_and, decide_eq_false (p := 4 ≤ m.kind ∧ m.kind ≤ 8) (by omega), Bool.not_false, Bool.true_or, Bool.and_true]; exact congrArg AV.bool (decide_eq_decide.2 (by unfold ValidP; (try unfold LivesP at *); omega)); rfl)
              · try simp only [decide_eq_true_eq, decide_eq_false_iff_not, Bool.not_eq_true', Bool.not_eq_false', Bool.not_eq_eq_eq_not, Bool.not_true, Bool.not_false, Bool.and_eq_true, Bool.or_eq_true, Bool.or_eq_false_iff, beq_iff_eq, beq_eq_false_iff_ne, ne_eq, Int.not_lt, Int.not_le, Decidable.not_not] at hc165
                refine g_skip ?_
                refine g_next hK40 ?_
                refine g_seq (fun K43 hK43 => ?_)
                refine g_region ?_
                refine g_step rfl (s_fieldAddr ty30 fo30_9 ty23 rfl rfl ?_)
                refine g_step rfl (s_val (v_loadl ty23 rfl rfl rfl rfl) rfl rfl ?_)
                refine g_step rfl (s_val (v_len ty23 rfl (by first | rfl | assumption) (by first | exact List.length_map .. | rfl)) rfl rfl ?_)
                refine g_step rfl (s_val (v_leq rfl rfl) rfl rfl ?_)
                refine g_step rfl (s_val (v_move rfl) rfl rfl ?_)
                refine g_split 174 rfl (fun hg174 => ?_) (fun hg174 => ?_)
                · try simp only [decide_eq_true_eq, decide_eq_false_iff_not, Bool.not_eq_true', Bool.not_eq_false', Bool.not_eq_eq_eq_not, Bool.not_true, Bool.not_false, Bool.and_eq_true, Bool.or_eq_true, Bool.or_eq_false_iff, beq_iff_eq, beq_eq_false_iff_ne, ne_eq, Int.not_lt, Int.not_le, Decidable.not_not] at hg174
                  refine g_step_yes (j := 4) (t := 174) rfl rfl rfl rfl (s_fieldAddr ty30 fo30_9 ty23 rfl rfl ?_)
                  refine g_step_yes (j := 4) (t := 174) rfl rfl rfl rfl (s_val (v_loadl ty23 rfl rfl rfl rfl) rfl rfl ?_)
                  refine g_step_yes (j := 4) (t := 174) rfl rfl rfl rfl (s_callp rfl rfl rfl (sorted_ok m.recs _ (by omega) hs) ?_)
                  rintro _ rfl
                  refine g_step rfl (s_val (v_pick_t rfl rfl) rfl rfl ?_)
                  refine g_step rfl (s_val (v_assign rfl) rfl rfl ?_)
                  refine g_nil ?_
                  refine g_next hK43 ?_
                  refine g_ret ?_
                  refine g_end1 (.inl rfl) Try.results37 (.tmp rfl) [] (ASub.refl _) (AHeap.sub_refl _) (fun p hp => by cases hp) ⟨rfl, ?_⟩
                  first | (rw [mvalid_eq, (show spValid m.sp = true by assumption), Bool.true_and, decide_eq_true (p := 4 ≤ m.kind ∧ m.kind ≤ 8) (by omega), Bool.not_true, Bool.false_or]; first | (rw [decide_eq_true (p := ValidP m) (by unfold ValidP; (try unfold LivesP at *); omega), Bool.true_and]; done) | (rw [decide_eq_false (p := ValidP m) (by unfold ValidP; (try unfold LivesP at *); omega), Bool.false_and]; rfl); done) | (rw [mvalid_eq, (show spValid m.sp = true by assumption), Bool.true_and, decide_eq_true (p := 4 ≤ m.kind ∧ m.kind ≤ 8) (by omega), Bool.not_true, Bool.false_or]; first | (rw [decide_eq_true (p := ValidP m) (by unfold ValidP; (try unfold LivesP at *); omega), Bool.true_and]; done) | (rw [decide_eq_false (p := ValidP m) (by unfold ValidP; (try unfold LivesP at *); omega), Bool.false_and]; rfl); rfl)
                · try simp only [decide_eq_true_eq, decide_eq_false_iff_not, Bool.not_eq_true', Bool.not_eq_false', Bool.not_eq_eq_eq_not, Bool.not_true, Bool.not_false, Bool.and_eq_true, Bool.or_eq_true, Bool.or_eq_false_iff, beq_iff_eq, beq_eq_false_iff_ne, ne_eq, Int.not_lt, Int.not_le, Decidable.not_not] at hg174
                  refine g_step_no (j := 4) (t := 174) rfl rfl rfl rfl rfl rfl rfl ?_
                  refine g_step_no (j := 4) (t := 174) rfl rfl rfl rfl rfl rfl rfl ?_
                  refine g_step_no (j := 4) (t := 174) rfl rfl rfl rfl rfl rfl rfl ?_
                  refine g_step rfl (s_val (v_pick_f rfl rfl) rfl rfl ?_)
                  refine g_step rfl (s_val (v_assign rfl) rfl rfl ?_)
                  refine g_nil ?_
                  refine g_next hK43 ?_
                  refine g_ret ?_
                  refine g_end1 (.inl rfl) Try.results37 (.tmp rfl) [] (ASub.refl _) (AHeap.sub_refl _) (fun p hp => by cases hp) ⟨rfl, ?_⟩
                  first | (rw [mvalid_eq, (show spValid m.sp = true by assumption), Bool.true_and, decide_eq_true (p := 4 ≤ m.kind ∧ m.kind ≤ 8) (by omega), Bool.not_true, Bool.false_or]; first | (rw [decide_eq_true (p := ValidP m) (by unfold ValidP; (try unfold LivesP at *); omega), Bool.true_and]; done) | (rw [decide_eq_false (p := ValidP m) (by unfold ValidP; (try unfold LivesP at *); omega), Bool.false_and]; rfl); done) | (rw [mvalid_eq, (show spValid m.sp = true by assumption), Bool.true_and, decide_eq_true (p := 4 ≤ m.kind ∧ m.kind ≤ 8) (by omega), Bool.not_true, Bool.false_or]; first | (rw [decide_eq_true (p := ValidP m) (by unfold ValidP; (try unfold LivesP at *); omega), Bool.true_and]; done) | (rw [decide_eq_false (p := ValidP m) (by unfold ValidP; (try unfold LivesP at *); omega), Bool.false_and]; rfl); rfl)

theorem msgMay_ok (m : Mg) (hh : ∀ r ∈ m.recs, Held r.bag) (hlen : m.recs.length ≤ 140737488351232) (G : AHeap) : PCalls Try.prog 9 [encM m] G (fun v => v = .bool true) := by
  refine LCalls.intro 43 fi9 rfl Try.ntmps9 rfl (fun _ h => h.elim) (fun H hH w0 hw0 => ?_)
  refine g_seq (fun K0 hK0 => ?_)
  refine g_region ?_
  refine g_step rfl (s_box rfl rfl rfl rfl ?_)
  refine g_step rfl (s_val (v_assign rfl) rfl rfl ?_)
  refine g_nil ?_
  refine g_next hK0 ?_
  refine g_seq (fun K1 hK1 => ?_)
  refine g_seq (fun K2 hK2 => ?_)
  refine g_region ?_
  refine g_step rfl (s_val (by first | exact v_loadl_all ty30 rfl rfl rfl rfl rfl | exact v_loadl_part (cs := [_, _, _, _, _, _, _, _, _, _, _]) ty30 rfl rfl rfl rfl rfl rfl) rfl rfl ?_)
  refine g_step rfl (s_callp rfl rfl rfl (mfew_ok m _ hh hlen) ?_)
  rintro _ rfl
  refine g_step rfl (s_val (v_not rfl) rfl rfl ?_)
  refine g_nil ?_
  refine g_next hK2 ?_
  refine g_cond rfl (fun hc7 => ?_) (fun hc7 => ?_)
  · try simp only [decide_eq_true_eq, decide_eq_false_iff_not, Bool.not_eq_true', Bool.not_eq_false', Bool.not_eq_eq_eq_not, Bool.not_true, Bool.not_false, Bool.and_eq_true, Bool.or_eq_true, Bool.or_eq_false_iff, beq_iff_eq, beq_eq_false_iff_ne, ne_eq, Int.not_lt, Int.not_le, Decidable.not_not] at hc7
    refine g_seq (fun K3 hK3 => ?_)
    refine g_region ?_
    refine g_step rfl (s_callp rfl rfl rfl (awake10_ok _) ?_)
    rintro _ rfl
    refine g_step rfl (s_val (v_assign rfl) rfl rfl ?_)
    refine g_nil ?_
    refine g_next hK3 ?_
    refine g_ret ?_
    refine g_then_ret ?_
    refine g_end1 (.inl rfl) Try.results9 (.tmp rfl) [] (ASub.refl _) (AHeap.sub_refl _) (fun p hp => by cases hp) ⟨rfl, ?_⟩
    rfl
  · try simp only [decide_eq_true_eq, decide_eq_false_iff_not, Bool.not_eq_true', Bool.not_eq_false', Bool.not_eq_eq_eq_not, Bool.not_true, Bool.not_false, Bool.and_eq_true, Bool.or_eq_true, Bool.or_eq_false_iff, beq_iff_eq, beq_eq_false_iff_ne, ne_eq, Int.not_lt, Int.not_le, Decidable.not_not] at hc7
    obtain ⟨h20, hs⟩ := fewL_small (l := m.recs) (by first | assumption | simp_all)
    refine g_skip ?_
    refine g_next hK1 ?_
    refine g_seq (fun K4 hK4 => ?_)
    refine g_region ?_
    refine g_step rfl (s_val (by first | exact v_loadl_all ty30 rfl rfl rfl rfl rfl | exact v_loadl_part (cs := [_, _, _, _, _, _, _, _, _, _, _]) ty30 rfl rfl rfl rfl rfl rfl) rfl rfl ?_)
    refine g_step rfl (s_callp rfl rfl rfl (mhead_ok _ _) ?_)
    rintro _ rfl
    refine g_step rfl (s_alloc (av := (.agg [(.int .i64 0), (.int .i64 0), (.int .i64 0), (.int .i64 0), (.int .i64 0), (.int .i64 0), (.int .i64 0), (.int .i64 0), (.int .i64 0), (.int .i64 0), .nil0])) ty30 rfl rfl rfl rfl ?_)
    refine g_step rfl (s_store_all ty30 rfl rfl rfl rfl rfl rfl ?_)
    refine g_nil ?_
    refine g_next hK4 ?_
    refine g_seq (fun K5 hK5 => ?_)
    refine g_region ?_
    refine g_step rfl (s_fieldAddr ty30 fo30_0 ty3 rfl rfl ?_)
    refine g_step rfl (s_val (v_loadl ty3 rfl rfl rfl rfl) rfl rfl ?_)
    refine g_step rfl (s_fieldAddr ty30 fo30_1 ty3 rfl rfl ?_)
    refine g_step rfl (s_val (v_loadl ty3 rfl rfl rfl rfl) rfl rfl ?_)
    refine g_step rfl (s_fieldAddr ty30 fo30_2 ty3 rfl rfl ?_)
    refine g_step rfl (s_val (v_loadl ty3 rfl rfl rfl rfl) rfl rfl ?_)
    refine g_step rfl (s_fieldAddr ty30 fo30_3 ty25 rfl rfl ?_)
    refine g_step rfl (s_val (v_loadl_part (cs := [_, _]) ty25 rfl rfl rfl rfl rfl rfl) rfl rfl ?_)
    refine g_step rfl (s_fieldAddr ty30 fo30_4 ty3 rfl rfl ?_)
    refine g_step rfl (s_val (v_loadl ty3 rfl rfl rfl rfl) rfl rfl ?_)
    refine g_step rfl (s_fieldAddr ty30 fo30_5 ty3 rfl rfl ?_)
    refine g_step rfl (s_val (v_loadl ty3 rfl rfl rfl rfl) rfl rfl ?_)
    refine g_step rfl (s_fieldAddr ty30 fo30_6 ty3 rfl rfl ?_)
    refine g_step rfl (s_val (v_loadl ty3 rfl rfl rfl rfl) rfl rfl ?_)
    refine g_step rfl (s_fieldAddr ty30 fo30_7 ty3 rfl rfl ?_)
    refine g_step rfl (s_val (v_loadl ty3 rfl rfl rfl rfl) rfl rfl ?_)
    refine g_step rfl (s_fieldAddr ty30 fo30_8 ty3 rfl rfl ?_)
    refine g_step rfl (s_val (v_loadl ty3 rfl rfl rfl rfl) rfl rfl ?_)
    refine g_step rfl (s_val (v_sub (b := (encM (mhead m))) (v_build (vs := [(0, _), (1, _), (2, _), (3, _), (4, _), (5, _), (6, _), (7, _), (8, _)]) (zs := [(.int .i64 0), (.int .i64 0), (.int .i64 0), (.int .i64 0), (.int .i64 0), (.int .i64 0), (.int .i64 0), (.int .i64 0), (.int .i64 0), (.int .i64 0), .nil0]) (cells := [_, _, _, _, _, _, _, _, _, _, _]) ty30 pl30 rfl rfl rfl) (ASub.of_wk rfl)) rfl rfl ?_)
    refine g_step rfl (s_alloc (av := (.agg [(.int .i64 0), (.int .i64 0), (.int .i64 0), (.int .i64 0), (.int .i64 0), (.int .i64 0), (.int .i64 0), (.int .i64 0), (.int .i64 0), (.int .i64 0), .nil0])) ty30 rfl rfl rfl rfl ?_)
    refine g_step rfl (s_store_all ty30 rfl rfl rfl rfl rfl rfl ?_)
    refine g_nil ?_
    refine g_next hK5 ?_
    refine g_seq (fun K6 hK6 => ?_)
    refine g_draw (n := 14) (fun j => !([] : List Nat).contains j) rfl rfl ?_
    refine m_take 0 true rfl rfl (by kernel_rfl) (by kernel_rfl) (by kernel_rfl) (fun _ _ _ _ h => h) (by first | exact v_loadl_all ty30 rfl rfl rfl rfl rfl | exact v_loadl_part (cs := [_, _, _, _, _, _, _, _, _, _, _]) ty30 rfl rfl rfl rfl rfl rfl) rfl rfl ?_
    refine m_take 2 true rfl rfl (by kernel_rfl) (by kernel_rfl) (by kernel_rfl) (fun _ _ _ _ h => h) (by first | exact v_loadl_all ty30 rfl rfl rfl rfl rfl | exact v_loadl_part (cs := [_, _, _, _, _, _, _, _, _, _, _]) ty30 rfl rfl rfl rfl rfl rfl) rfl rfl ?_
    refine m_one 1 (by kernel_rfl) rfl rfl ?_
    refine sm_callp rfl rfl rfl (mvalid_ok m _ (by omega) hs) ?_
    rintro _ rfl
    refine m_one 3 (by kernel_rfl) rfl rfl ?_
    refine sm_callp rfl rfl rfl (may10_ok m _ (by omega) hs) ?_
    rintro _ rfl
    refine m_take 4 false rfl rfl (by kernel_rfl) (by kernel_rfl) (by kernel_rfl) (fun _ _ _ _ h => h) (v_bool_eql ty4 rfl rfl) rfl rfl ?_
    refine m_take 5 false rfl rfl (by kernel_rfl) (by kernel_rfl) (by kernel_rfl) (fun _ _ _ _ h => h) (v_move rfl) rfl rfl ?_
    refine m_split 35 rfl (fun hg35 => ?_) (fun hg35 => ?_)
    · try simp only [decide_eq_true_eq, decide_eq_false_iff_not, Bool.not_eq_true', Bool.not_eq_false', Bool.not_eq_eq_eq_not, Bool.not_true, Bool.not_false, Bool.and_eq_true, Bool.or_eq_true, Bool.or_eq_false_iff, beq_iff_eq, beq_eq_false_iff_ne, ne_eq, Int.not_lt, Int.not_le, Decidable.not_not] at hg35
      refine m_take_yes (j := 5) (t := 35) 6 true rfl rfl rfl rfl rfl (by kernel_rfl) (by kernel_rfl) (by kernel_rfl) (fun _ _ _ _ h => h) (by first | exact v_loadl_all ty30 rfl rfl rfl rfl rfl | exact v_loadl_part (cs := [_, _, _, _, _, _, _, _, _, _, _]) ty30 rfl rfl rfl rfl rfl rfl) rfl rfl ?_
      refine m_take_yes (j := 5) (t := 35) 7 true rfl rfl rfl rfl rfl (by kernel_rfl) (by kernel_rfl) (by kernel_rfl) (fun _ _ _ _ h => h) (by first | exact v_loadl_all ty30 rfl rfl rfl rfl rfl | exact v_loadl_part (cs := [_, _, _, _, _, _, _, _, _, _, _]) ty30 rfl rfl rfl rfl rfl rfl) rfl rfl ?_
      refine m_one_yes (j := 5) (t := 35) 8 (by kernel_rfl) rfl rfl rfl rfl rfl ?_
      refine sm_callp rfl rfl rfl (malike_ok (mhead m) (mhead m) _ (by simp [mhead]) (by simp [mhead])) ?_
      rintro _ rfl
      refine m_take 9 false rfl rfl (by kernel_rfl) (by kernel_rfl) (by kernel_rfl) (fun _ _ _ _ h => h) (v_pick_t rfl rfl) rfl rfl ?_
      refine m_take 10 false rfl rfl (by kernel_rfl) (by kernel_rfl) (by kernel_rfl) (fun _ _ _ _ h => h) (v_move rfl) rfl rfl ?_
      refine m_split 40 rfl (fun hg40 => ?_) (fun hg40 => ?_)
      · try simp only [decide_eq_true_eq, decide_eq_false_iff_not, Bool.not_eq_true', Bool.not_eq_false', Bool.not_eq_eq_eq_not, Bool.not_true, Bool.not_false, Bool.and_eq_true, Bool.or_eq_true, Bool.or_eq_false_iff, beq_iff_eq, beq_eq_false_iff_ne, ne_eq, Int.not_lt, Int.not_le, Decidable.not_not] at hg40
        refine m_one_yes (j := 10) (t := 40) 11 (by kernel_rfl) rfl rfl rfl rfl rfl ?_
        refine sm_callp rfl rfl rfl (awake10_ok _) ?_
        rintro _ rfl
        refine m_take 12 false rfl rfl (by kernel_rfl) (by kernel_rfl) (by kernel_rfl) (fun _ _ _ _ h => h) (v_pick_t rfl rfl) rfl rfl ?_
        refine m_take 13 false rfl rfl (by kernel_rfl) (by kernel_rfl) (by kernel_rfl) (fun _ _ _ _ h => h) (v_assign rfl) rfl rfl ?_
        refine m_done (by kernel_rfl) ?_
        refine g_next hK6 ?_
        first | refine g_keep [2] [] [] (keep_cons rfl keep_nil) lkeep_nil keep_nil rfl ?_ | refine g_keep [2] [] [] rfl rfl rfl rfl ?_
        refine g_ret ?_
        refine g_end1 (.inl rfl) Try.results9 (.tmp rfl) [] (ASub.refl _) (AHeap.sub_refl _) (fun p hp => by cases hp) ⟨rfl, ?_⟩
        rfl
      · exfalso; (try simp only [decide_eq_true_eq, decide_eq_false_iff_not, Bool.not_eq_true', Bool.not_eq_false', Bool.not_eq_eq_eq_not, Bool.not_true, Bool.not_false, Bool.and_eq_true, Bool.or_eq_true, Bool.or_eq_false_iff, beq_iff_eq, beq_eq_false_iff_ne, ne_eq, Int.not_lt, Int.not_le, Decidable.not_not] at hg40); simp at hg40
    · exfalso; (try simp only [decide_eq_true_eq, decide_eq_false_iff_not, Bool.not_eq_true', Bool.not_eq_false', Bool.not_eq_eq_eq_not, Bool.not_true, Bool.not_false, Bool.and_eq_true, Bool.or_eq_true, Bool.or_eq_false_iff, beq_iff_eq, beq_eq_false_iff_ne, ne_eq, Int.not_lt, Int.not_le, Decidable.not_not] at hg35); simp at hg35

end Go.Proofs.Ytnkcofpkmnohkaa

import Derived.Test.YtgipbhfblmblcaaEvent
import Derived.Test.YtgipbhfblmblcaaMerge
set_option maxHeartbeats 8000000
set_option linter.unusedSimpArgs false
set_option linter.unusedVariables false
set_option maxRecDepth 100000
namespace Go.Proofs.Ytgipbhfblmblcaa
open Go Go.Proofs.Ytgipbhfblmblcaa.AM
theorem happened_ok (a b : List Rc) (id k : Int) (G : AHeap) (hla : a.length ≤ 1000000) (hlb : b.length ≤ 1000000) (hsa : ∀ x ∈ a, Small x.bag) (hsb : ∀ x ∈ b, Small x.bag) : PCalls Try.prog 53 [encRs a, encRs b, .int .i64 id, .int .i64 k] G (fun v => v = .bool (happ (fnd a id) (fnd b id) k)) := by
  refine LCalls.intro 115 fi53 rfl Try.ntmps53 rfl (fun _ h => h.elim) (fun H hH w0 hw0 => ?_)
  refine g_seq (fun K0 hK0 => ?_)
  refine g_region ?_
  refine g_step rfl (s_val (v_assign rfl) rfl rfl ?_)
  refine g_nil ?_
  refine g_next hK0 ?_
  refine g_seq (fun K1 hK1 => ?_)
  refine g_region ?_
  refine g_step rfl (s_val (v_move rfl) rfl rfl ?_)
  refine g_step rfl (s_val (v_move rfl) rfl rfl ?_)
  refine g_step rfl (s_callp rfl rfl rfl (find_ok a id _ _ rfl hla hsa) ?_)
  rintro _ rfl
  refine g_step rfl (s_val (v_move rfl) rfl rfl ?_)
  refine g_step rfl (s_val (v_extract rfl rfl) rfl rfl ?_)
  refine g_step rfl (s_val (v_extract rfl rfl) rfl rfl ?_)
  refine g_step rfl (s_alloc (av := (.agg [(.int .i64 0), (.int .i64 0), (.int .i64 0), (.int .i64 0), (.int .i64 0), (.bool false), .nil0])) ty46 rfl rfl rfl rfl ?_)
  refine g_step rfl (s_store_all ty46 rfl rfl rfl rfl rfl rfl ?_)
  refine g_step rfl (s_val (v_assign rfl) rfl rfl ?_)
  refine g_nil ?_
  refine g_next hK1 ?_
  refine g_seq (fun K2 hK2 => ?_)
  refine g_region ?_
  refine g_step rfl (s_val (v_move rfl) rfl rfl ?_)
  refine g_step rfl (s_val (v_move rfl) rfl rfl ?_)
  refine g_step rfl (s_callp rfl rfl rfl (find_ok b id _ _ rfl hlb hsb) ?_)
  rintro _ rfl
  refine g_step rfl (s_val (v_move rfl) rfl rfl ?_)
  refine g_step rfl (s_val (v_extract rfl rfl) rfl rfl ?_)
  refine g_step rfl (s_val (v_extract rfl rfl) rfl rfl ?_)
  refine g_step rfl (s_alloc (av := (.agg [(.int .i64 0), (.int .i64 0), (.int .i64 0), (.int .i64 0), (.int .i64 0), (.bool false), .nil0])) ty46 rfl rfl rfl rfl ?_)
  refine g_step rfl (s_store_all ty46 rfl rfl rfl rfl rfl rfl ?_)
  refine g_step rfl (s_val (v_assign rfl) rfl rfl ?_)
  refine g_nil ?_
  refine g_next hK2 ?_
  refine g_seq (fun K3 hK3 => ?_)
  refine g_seq (fun K4 hK4 => ?_)
  refine g_region ?_
  refine g_step rfl (s_val (v_move rfl) rfl rfl ?_)
  refine g_step rfl (s_val (v_not rfl) rfl rfl ?_)
  refine g_step rfl (s_val (v_move rfl) rfl rfl ?_)
  refine g_split 27 rfl (fun hg27 => ?_) (fun hg27 => ?_)
  · try simp only [decide_eq_true_eq, decide_eq_false_iff_not, Bool.not_eq_true', Bool.not_eq_false', Bool.not_eq_eq_eq_not, Bool.not_true, Bool.not_false, Bool.and_eq_true, Bool.or_eq_true, Bool.or_eq_false_iff, beq_iff_eq, beq_eq_false_iff_ne, ne_eq, Int.not_lt, Int.not_le, Decidable.not_not] at hg27
    refine g_step_no (j := 2) (t := 27) rfl rfl rfl rfl rfl rfl rfl ?_
    refine g_step_no (j := 2) (t := 27) rfl rfl rfl rfl rfl rfl rfl ?_
    refine g_step rfl (s_val (v_pick_t rfl rfl) rfl rfl ?_)
    refine g_nil ?_
    refine g_next hK4 ?_
    first | refine g_keep [3, 10, 12, 30] [9, 11] [9, 11] (keep_cons rfl (keep_cons rfl (keep_cons rfl (keep_cons rfl keep_nil)))) (lkeep_cons rfl (lkeep_cons rfl lkeep_nil)) (keep_cons rfl (keep_cons rfl keep_nil)) rfl ?_ | refine g_keep [3, 10, 12, 30] [9, 11] [9, 11] rfl rfl rfl rfl ?_
    refine g_cond rfl (fun _ => ?_) (fun h => by cases h)
    refine g_seq (fun K5 hK5 => ?_)
    refine g_region ?_
    refine g_step rfl (s_val (v_move rfl) rfl rfl ?_)
    refine g_step rfl (s_val (v_eql rfl rfl) rfl rfl ?_)
    refine g_step rfl (s_val (v_move rfl) rfl rfl ?_)
    refine g_split 33 rfl (fun hg33 => ?_) (fun hg33 => ?_)
    · try simp only [decide_eq_true_eq, decide_eq_false_iff_not, Bool.not_eq_true', Bool.not_eq_false', Bool.not_eq_eq_eq_not, Bool.not_true, Bool.not_false, Bool.and_eq_true, Bool.or_eq_true, Bool.or_eq_false_iff, beq_iff_eq, beq_eq_false_iff_ne, ne_eq, Int.not_lt, Int.not_le, Decidable.not_not] at hg33
      refine g_step_yes (j := 2) (t := 33) rfl rfl rfl rfl (s_val (v_move rfl) rfl rfl ?_)
      refine g_step rfl (s_val (v_pick_t rfl rfl) rfl rfl ?_)
      refine g_step rfl (s_val (v_move rfl) rfl rfl ?_)
      refine g_split 36 rfl (fun hg36 => ?_) (fun hg36 => ?_)
      · try simp only [decide_eq_true_eq, decide_eq_false_iff_not, Bool.not_eq_true', Bool.not_eq_false', Bool.not_eq_eq_eq_not, Bool.not_true, Bool.not_false, Bool.and_eq_true, Bool.or_eq_true, Bool.or_eq_false_iff, beq_iff_eq, beq_eq_false_iff_ne, ne_eq, Int.not_lt, Int.not_le, Decidable.not_not] at hg36
        refine g_step_no (j := 5) (t := 36) rfl rfl rfl rfl rfl rfl rfl ?_
        refine g_step_no (j := 5) (t := 36) rfl rfl rfl rfl rfl rfl rfl ?_
        refine g_step_no (j := 5) (t := 36) rfl rfl rfl rfl rfl rfl rfl ?_
        refine g_step_und (j := 8) (t := 39) rfl rfl rfl rfl rfl rfl ?_
        refine g_step_no (j := 5) (t := 36) rfl rfl rfl rfl rfl rfl rfl ?_
        refine g_step rfl (s_val (v_pick_t rfl rfl) rfl rfl ?_)
        refine g_step rfl (s_val (v_assign rfl) rfl rfl ?_)
        refine g_nil ?_
        refine g_next hK5 ?_
        refine g_ret ?_
        refine g_then_ret ?_
        refine g_end1 (.inl rfl) Try.results53 (.tmp rfl) [] (ASub.refl _) (AHeap.sub_refl _) (fun p hp => by cases hp) ⟨rfl, ?_⟩
        first | (cases hA : fnd a id <;> cases hB : fnd b id <;> simp_all [rfind_fst, happ, sp_iff] <;> omega; done) | (cases hA : fnd a id <;> cases hB : fnd b id <;> simp_all [rfind_fst, happ, sp_iff] <;> omega; rfl)
      · try simp only [decide_eq_true_eq, decide_eq_false_iff_not, Bool.not_eq_true', Bool.not_eq_false', Bool.not_eq_eq_eq_not, Bool.not_true, Bool.not_false, Bool.and_eq_true, Bool.or_eq_true, Bool.or_eq_false_iff, beq_iff_eq, beq_eq_false_iff_ne, ne_eq, Int.not_lt, Int.not_le, Decidable.not_not] at hg36
        refine g_step_yes (j := 5) (t := 36) rfl rfl rfl rfl (s_val (v_move rfl) rfl rfl ?_)
        refine g_step_yes (j := 5) (t := 36) rfl rfl rfl rfl (s_val (v_eql rfl rfl) rfl rfl ?_)
        refine g_step_yes (j := 5) (t := 36) rfl rfl rfl rfl (s_val (v_move rfl) rfl rfl ?_)
        refine g_split 39 rfl (fun hg39 => ?_) (fun hg39 => ?_)
        · try simp only [decide_eq_true_eq, decide_eq_false_iff_not, Bool.not_eq_true', Bool.not_eq_false', Bool.not_eq_eq_eq_not, Bool.not_true, Bool.not_false, Bool.and_eq_true, Bool.or_eq_true, Bool.or_eq_false_iff, beq_iff_eq, beq_eq_false_iff_ne, ne_eq, Int.not_lt, Int.not_le, Decidable.not_not] at hg39
          refine g_step_yes (j := 8) (t := 39) rfl rfl rfl rfl (s_val (v_move rfl) rfl rfl ?_)
          refine g_step_yes (j := 5) (t := 36) rfl rfl rfl rfl (s_val (v_pick_t rfl rfl) rfl rfl ?_)
          refine g_step rfl (s_val (v_pick_f rfl rfl) rfl rfl ?_)
          refine g_step rfl (s_val (v_assign rfl) rfl rfl ?_)
          refine g_nil ?_
          refine g_next hK5 ?_
          refine g_ret ?_
          refine g_then_ret ?_
          refine g_end1 (.inl rfl) Try.results53 (.tmp rfl) [] (ASub.refl _) (AHeap.sub_refl _) (fun p hp => by cases hp) ⟨rfl, ?_⟩
          first | (cases hA : fnd a id <;> cases hB : fnd b id <;> simp_all [rfind_fst, happ, sp_iff] <;> omega; done) | (cases hA : fnd a id <;> cases hB : fnd b id <;> simp_all [rfind_fst, happ, sp_iff] <;> omega; rfl)
        · try simp only [decide_eq_true_eq, decide_eq_false_iff_not, Bool.not_eq_true', Bool.not_eq_false', Bool.not_eq_eq_eq_not, Bool.not_true, Bool.not_false, Bool.and_eq_true, Bool.or_eq_true, Bool.or_eq_false_iff, beq_iff_eq, beq_eq_false_iff_ne, ne_eq, Int.not_lt, Int.not_le, Decidable.not_not] at hg39
          refine g_step_no (j := 8) (t := 39) rfl rfl rfl rfl rfl rfl rfl ?_
          refine g_step_yes (j := 5) (t := 36) rfl rfl rfl rfl (s_val (v_pick_f rfl rfl) rfl rfl ?_)
          refine g_step rfl (s_val (v_pick_f rfl rfl) rfl rfl ?_)
          refine g_step rfl (s_val (v_assign rfl) rfl rfl ?_)
          refine g_nil ?_
          refine g_next hK5 ?_
          refine g_ret ?_
          refine g_then_ret ?_
          refine g_end1 (.inl rfl) Try.results53 (.tmp rfl) [] (ASub.refl _) (AHeap.sub_refl _) (fun p hp => by cases hp) ⟨rfl, ?_⟩
          first | (cases hA : fnd a id <;> cases hB : fnd b id <;> simp_all [rfind_fst, happ, sp_iff] <;> omega; done) | (cases hA : fnd a id <;> cases hB : fnd b id <;> simp_all [rfind_fst, happ, sp_iff] <;> omega; rfl)
    · try simp only [decide_eq_true_eq, decide_eq_false_iff_not, Bool.not_eq_true', Bool.not_eq_false', Bool.not_eq_eq_eq_not, Bool.not_true, Bool.not_false, Bool.and_eq_true, Bool.or_eq_true, Bool.or_eq_false_iff, beq_iff_eq, beq_eq_false_iff_ne, ne_eq, Int.not_lt, Int.not_le, Decidable.not_not] at hg33
      refine g_step_no (j := 2) (t := 33) rfl rfl rfl rfl rfl rfl rfl ?_
      refine g_step rfl (s_val (v_pick_f rfl rfl) rfl rfl ?_)
      refine g_step rfl (s_val (v_move rfl) rfl rfl ?_)
      refine g_step_yes (j := 5) (t := 36) rfl rfl rfl rfl (s_val (v_move rfl) rfl rfl ?_)
      refine g_step_yes (j := 5) (t := 36) rfl rfl rfl rfl (s_val (v_eql rfl rfl) rfl rfl ?_)
      refine g_step_yes (j := 5) (t := 36) rfl rfl rfl rfl (s_val (v_move rfl) rfl rfl ?_)
      refine g_split 39 rfl (fun hg39 => ?_) (fun hg39 => ?_)
      · try simp only [decide_eq_true_eq, decide_eq_false_iff_not, Bool.not_eq_true', Bool.not_eq_false', Bool.not_eq_eq_eq_not, Bool.not_true, Bool.not_false, Bool.and_eq_true, Bool.or_eq_true, Bool.or_eq_false_iff, beq_iff_eq, beq_eq_false_iff_ne, ne_eq, Int.not_lt, Int.not_le, Decidable.not_not] at hg39
        refine g_step_yes (j := 8) (t := 39) rfl rfl rfl rfl (s_val (v_move rfl) rfl rfl ?_)
        refine g_step_yes (j := 5) (t := 36) rfl rfl rfl rfl (s_val (v_pick_t rfl rfl) rfl rfl ?_)
        refine g_step rfl (s_val (v_pick_f rfl rfl) rfl rfl ?_)
        refine g_step rfl (s_val (v_assign rfl) rfl rfl ?_)
        refine g_nil ?_
        refine g_next hK5 ?_
        refine g_ret ?_
        refine g_then_ret ?_
        refine g_end1 (.inl rfl) Try.results53 (.tmp rfl) [] (ASub.refl _) (AHeap.sub_refl _) (fun p hp => by cases hp) ⟨rfl, ?_⟩
        first | (cases hA : fnd a id <;> cases hB : fnd b id <;> simp_all [rfind_fst, happ, sp_iff] <;> omega; done) | (cases hA : fnd a id <;> cases hB : fnd b id <;> simp_all [rfind_fst, happ, sp_iff] <;> omega; rfl)
      · try simp only [decide_eq_true_eq, decide_eq_false_iff_not, Bool.not_eq_true', Bool.not_eq_false', Bool.not_eq_eq_eq_not, Bool.not_true, Bool.not_false, Bool.and_eq_true, Bool.or_eq_true, Bool.or_eq_false_iff, beq_iff_eq, beq_eq_false_iff_ne, ne_eq, Int.not_lt, Int.not_le, Decidable.not_not] at hg39
        refine g_step_no (j := 8) (t := 39) rfl rfl rfl rfl rfl rfl rfl ?_
        refine g_step_yes (j := 5) (t := 36) rfl rfl rfl rfl (s_val (v_pick_f rfl rfl) rfl rfl ?_)
        refine g_step rfl (s_val (v_pick_f rfl rfl) rfl rfl ?_)
        refine g_step rfl (s_val (v_assign rfl) rfl rfl ?_)
        refine g_nil ?_
        refine g_next hK5 ?_
        refine g_ret ?_
        refine g_then_ret ?_
        refine g_end1 (.inl rfl) Try.results53 (.tmp rfl) [] (ASub.refl _) (AHeap.sub_refl _) (fun p hp => by cases hp) ⟨rfl, ?_⟩
        first | (cases hA : fnd a id <;> cases hB : fnd b id <;> simp_all [rfind_fst, happ, sp_iff] <;> omega; done) | (cases hA : fnd a id <;> cases hB : fnd b id <;> simp_all [rfind_fst, happ, sp_iff] <;> omega; rfl)
  · try simp only [decide_eq_true_eq, decide_eq_false_iff_not, Bool.not_eq_true', Bool.not_eq_false', Bool.not_eq_eq_eq_not, Bool.not_true, Bool.not_false, Bool.and_eq_true, Bool.or_eq_true, Bool.or_eq_false_iff, beq_iff_eq, beq_eq_false_iff_ne, ne_eq, Int.not_lt, Int.not_le, Decidable.not_not] at hg27
    refine g_step_yes (j := 2) (t := 27) rfl rfl rfl rfl (s_val (v_move rfl) rfl rfl ?_)
    refine g_step_yes (j := 2) (t := 27) rfl rfl rfl rfl (s_val (v_not rfl) rfl rfl ?_)
    refine g_step rfl (s_val (v_pick_f rfl rfl) rfl rfl ?_)
    refine g_nil ?_
    refine g_next hK4 ?_
    first | refine g_keep [3, 10, 12, 30] [9, 11] [9, 11] (keep_cons rfl (keep_cons rfl (keep_cons rfl (keep_cons rfl keep_nil)))) (lkeep_cons rfl (lkeep_cons rfl lkeep_nil)) (keep_cons rfl (keep_cons rfl keep_nil)) rfl ?_ | refine g_keep [3, 10, 12, 30] [9, 11] [9, 11] rfl rfl rfl rfl ?_
    refine g_cond rfl (fun hc30 => ?_) (fun hc30 => ?_)
    · try simp only [decide_eq_true_eq, decide_eq_false_iff_not, Bool.not_eq_true', Bool.not_eq_false', Bool.not_eq_eq_eq_not, Bool.not_true, Bool.not_false, Bool.and_eq_true, Bool.or_eq_true, Bool.or_eq_false_iff, beq_iff_eq, beq_eq_false_iff_ne, ne_eq, Int.not_lt, Int.not_le, Decidable.not_not] at hc30
      refine g_seq (fun K6 hK6 => ?_)
      refine g_region ?_
      refine g_step rfl (s_val (v_move rfl) rfl rfl ?_)
      refine g_step rfl (s_val (v_eql rfl rfl) rfl rfl ?_)
      refine g_step rfl (s_val (v_move rfl) rfl rfl ?_)
      refine g_split 33 rfl (fun hg33 => ?_) (fun hg33 => ?_)
      · try simp only [decide_eq_true_eq, decide_eq_false_iff_not, Bool.not_eq_true', Bool.not_eq_false', Bool.not_eq_eq_eq_not, Bool.not_true, Bool.not_false, Bool.and_eq_true, Bool.or_eq_true, Bool.or_eq_false_iff, beq_iff_eq, beq_eq_false_iff_ne, ne_eq, Int.not_lt, Int.not_le, Decidable.not_not] at hg33
        refine g_step_yes (j := 2) (t := 33) rfl rfl rfl rfl (s_val (v_move rfl) rfl rfl ?_)
        refine g_step rfl (s_val (v_pick_t rfl rfl) rfl rfl ?_)
        refine g_step rfl (s_val (v_move rfl) rfl rfl ?_)
        refine g_split 36 rfl (fun hg36 => ?_) (fun hg36 => ?_)
        · try simp only [decide_eq_true_eq, decide_eq_false_iff_not, Bool.not_eq_true', Bool.not_eq_false', Bool.not_eq_eq_eq_not, Bool.not_true, Bool.not_false, Bool.and_eq_true, Bool.or_eq_true, Bool.or_eq_false_iff, beq_iff_eq, beq_eq_false_iff_ne, ne_eq, Int.not_lt, Int.not_le, Decidable.not_not] at hg36
          refine g_step_no (j := 5) (t := 36) rfl rfl rfl rfl rfl rfl rfl ?_
          refine g_step_no (j := 5) (t := 36) rfl rfl rfl rfl rfl rfl rfl ?_
          refine g_step_no (j := 5) (t := 36) rfl rfl rfl rfl rfl rfl rfl ?_
          refine g_step_und (j := 8) (t := 39) rfl rfl rfl rfl rfl rfl ?_
          refine g_step_no (j := 5) (t := 36) rfl rfl rfl rfl rfl rfl rfl ?_
          refine g_step rfl (s_val (v_pick_t rfl rfl) rfl rfl ?_)
          refine g_step rfl (s_val (v_assign rfl) rfl rfl ?_)
          refine g_nil ?_
          refine g_next hK6 ?_
          refine g_ret ?_
          refine g_then_ret ?_
          refine g_end1 (.inl rfl) Try.results53 (.tmp rfl) [] (ASub.refl _) (AHeap.sub_refl _) (fun p hp => by cases hp) ⟨rfl, ?_⟩
          first | (cases hA : fnd a id <;> cases hB : fnd b id <;> simp_all [rfind_fst, happ, sp_iff] <;> omega; done) | (cases hA : fnd a id <;> cases hB : fnd b id <;> simp_all [rfind_fst, happ, sp_iff] <;> omega; rfl)
        · try simp only [decide_eq_true_eq, decide_eq_false_iff_not, Bool.not_eq_true', Bool.not_eq_false', Bool.not_eq_eq_eq_not, Bool.not_true, Bool.not_false, Bool.and_eq_true, Bool.or_eq_true, Bool.or_eq_false_iff, beq_iff_eq, beq_eq_false_iff_ne, ne_eq, Int.not_lt, Int.not_le, Decidable.not_not] at hg36
          refine g_step_yes (j := 5) (t := 36) rfl rfl rfl rfl (s_val (v_move rfl) rfl rfl ?_)
          refine g_step_yes (j := 5) (t := 36) rfl rfl rfl rfl (s_val (v_eql rfl rfl) rfl rfl ?_)
          refine g_step_yes (j := 5) (t := 36) rfl rfl rfl rfl (s_val (v_move rfl) rfl rfl ?_)
          refine g_split 39 rfl (fun hg39 => ?_) (fun hg39 => ?_)
          · try simp only [decide_eq_true_eq, decide_eq_false_iff_not, Bool.not_eq_true', Bool.not_eq_false', Bool.not_eq_eq_eq_not, Bool.not_true, Bool.not_false, Bool.and_eq_true, Bool.or_eq_true, Bool.or_eq_false_iff, beq_iff_eq, beq_eq_false_iff_ne, ne_eq, Int.not_lt, Int.not_le, Decidable.not_not] at hg39
            refine g_step_yes (j := 8) (t := 39) rfl rfl rfl rfl (s_val (v_move rfl) rfl rfl ?_)
            refine g_step_yes (j := 5) (t := 36) rfl rfl rfl rfl (s_val (v_pick_t rfl rfl) rfl rfl ?_)
            refine g_step rfl (s_val (v_pick_f rfl rfl) rfl rfl ?_)
            refine g_step rfl (s_val (v_assign rfl) rfl rfl ?_)
            refine g_nil ?_
            refine g_next hK6 ?_
            refine g_ret ?_
            refine g_then_ret ?_
            refine g_end1 (.inl rfl) Try.results53 (.tmp rfl) [] (ASub.refl _) (AHeap.sub_refl _) (fun p hp => by cases hp) ⟨rfl, ?_⟩
            first | (cases hA : fnd a id <;> cases hB : fnd b id <;> simp_all [rfind_fst, happ, sp_iff] <;> omega; done) | (cases hA : fnd a id <;> cases hB : fnd b id <;> simp_all [rfind_fst, happ, sp_iff] <;> omega; rfl)
          · try simp only [decide_eq_true_eq, decide_eq_false_iff_not, Bool.not_eq_true', Bool.not_eq_false', Bool.not_eq_eq_eq_not, Bool.not_true, Bool.not_false, Bool.and_eq_true, Bool.or_eq_true, Bool.or_eq_false_iff, beq_iff_eq, beq_eq_false_iff_ne, ne_eq, Int.not_lt, Int.not_le, Decidable.not_not] at hg39
            refine g_step_no (j := 8) (t := 39) rfl rfl rfl rfl rfl rfl rfl ?_
            refine g_step_yes (j := 5) (t := 36) rfl rfl rfl rfl (s_val (v_pick_f rfl rfl) rfl rfl ?_)
            refine g_step rfl (s_val (v_pick_f rfl rfl) rfl rfl ?_)
            refine g_step rfl (s_val (v_assign rfl) rfl rfl ?_)
            refine g_nil ?_
            refine g_next hK6 ?_
            refine g_ret ?_
            refine g_then_ret ?_
            refine g_end1 (.inl rfl) Try.results53 (.tmp rfl) [] (ASub.refl _) (AHeap.sub_refl _) (fun p hp => by cases hp) ⟨rfl, ?_⟩
            first | (cases hA : fnd a id <;> cases hB : fnd b id <;> simp_all [rfind_fst, happ, sp_iff] <;> omega; done) | (cases hA : fnd a id <;> cases hB : fnd b id <;> simp_all [rfind_fst, happ, sp_iff] <;> omega; rfl)
      · try simp only [decide_eq_true_eq, decide_eq_false_iff_not, Bool.not_eq_true', Bool.not_eq_false', Bool.not_eq_eq_eq_not, Bool.not_true, Bool.not_false, Bool.and_eq_true, Bool.or_eq_true, Bool.or_eq_false_iff, beq_iff_eq, beq_eq_false_iff_ne, ne_eq, Int.not_lt, Int.not_le, Decidable.not_not] at hg33
        refine g_step_no (j := 2) (t := 33) rfl rfl rfl rfl rfl rfl rfl ?_
        refine g_step rfl (s_val (v_pick_f rfl rfl) rfl rfl ?_)
        refine g_step rfl (s_val (v_move rfl) rfl rfl ?_)
        refine g_step_yes (j := 5) (t := 36) rfl rfl rfl rfl (s_val (v_move rfl) rfl rfl ?_)
        refine g_step_yes (j := 5) (t := 36) rfl rfl rfl rfl (s_val (v_eql rfl rfl) rfl rfl ?_)
        refine g_step_yes (j := 5) (t := 36) rfl rfl rfl rfl (s_val (v_move rfl) rfl rfl ?_)
        refine g_split 39 rfl (fun hg39 => ?_) (fun hg39 => ?_)
        · try simp only [decide_eq_true_eq, decide_eq_false_iff_not, Bool.not_eq_true', Bool.not_eq_false', Bool.not_eq_eq_eq_not, Bool.not_true, Bool.not_false, Bool.and_eq_true, Bool.or_eq_true, Bool.or_eq_false_iff, beq_iff_eq, beq_eq_false_iff_ne, ne_eq, Int.not_lt, Int.not_le, Decidable.not_not] at hg39
          refine g_step_yes (j := 8) (t := 39) rfl rfl rfl rfl (s_val (v_move rfl) rfl rfl ?_)
          refine g_step_yes (j := 5) (t := 36) rfl rfl rfl rfl (s_val (v_pick_t rfl rfl) rfl rfl ?_)
          refine g_step rfl (s_val (v_pick_f rfl rfl) rfl rfl ?_)
          refine g_step rfl (s_val (v_assign rfl) rfl rfl ?_)
          refine g_nil ?_
          refine g_next hK6 ?_
          refine g_ret ?_
          refine g_then_ret ?_
          refine g_end1 (.inl rfl) Try.results53 (.tmp rfl) [] (ASub.refl _) (AHeap.sub_refl _) (fun p hp => by cases hp) ⟨rfl, ?_⟩
          first | (cases hA : fnd a id <;> cases hB : fnd b id <;> simp_all [rfind_fst, happ, sp_iff] <;> omega; done) | (cases hA : fnd a id <;> cases hB : fnd b id <;> simp_all [rfind_fst, happ, sp_iff] <;> omega; rfl)
        · try simp only [decide_eq_true_eq, decide_eq_false_iff_not, Bool.not_eq_true', Bool.not_eq_false', Bool.not_eq_eq_eq_not, Bool.not_true, Bool.not_false, Bool.and_eq_true, Bool.or_eq_true, Bool.or_eq_false_iff, beq_iff_eq, beq_eq_false_iff_ne, ne_eq, Int.not_lt, Int.not_le, Decidable.not_not] at hg39
          refine g_step_no (j := 8) (t := 39) rfl rfl rfl rfl rfl rfl rfl ?_
          refine g_step_yes (j := 5) (t := 36) rfl rfl rfl rfl (s_val (v_pick_f rfl rfl) rfl rfl ?_)
          refine g_step rfl (s_val (v_pick_f rfl rfl) rfl rfl ?_)
          refine g_step rfl (s_val (v_assign rfl) rfl rfl ?_)
          refine g_nil ?_
          refine g_next hK6 ?_
          refine g_ret ?_
          refine g_then_ret ?_
          refine g_end1 (.inl rfl) Try.results53 (.tmp rfl) [] (ASub.refl _) (AHeap.sub_refl _) (fun p hp => by cases hp) ⟨rfl, ?_⟩
          first | (cases hA : fnd a id <;> cases hB : fnd b id <;> simp_all [rfind_fst, happ, sp_iff] <;> omega; done) | (cases hA : fnd a id <;> cases hB : fnd b id <;> simp_all [rfind_fst, happ, sp_iff] <;> omega; rfl)
    · try simp only [decide_eq_true_eq, decide_eq_false_iff_not, Bool.not_eq_true', Bool.not_eq_false', Bool.not_eq_eq_eq_not, Bool.not_true, Bool.not_false, Bool.and_eq_true, Bool.or_eq_true, Bool.or_eq_false_iff, beq_iff_eq, beq_eq_false_iff_ne, ne_eq, Int.not_lt, Int.not_le, Decidable.not_not] at hc30
      refine g_skip ?_
      refine g_next hK3 ?_
      refine g_seq (fun K7 hK7 => ?_)
      refine g_seq (fun K8 hK8 => ?_)
      refine g_region ?_
      refine g_step rfl (s_val (v_move rfl) rfl rfl ?_)
      refine g_step rfl (s_val (v_geq rfl rfl) rfl rfl ?_)
      refine g_step rfl (s_val (v_move rfl) rfl rfl ?_)
      refine g_split 45 rfl (fun hg45 => ?_) (fun hg45 => ?_)
      · try simp only [decide_eq_true_eq, decide_eq_false_iff_not, Bool.not_eq_true', Bool.not_eq_false', Bool.not_eq_eq_eq_not, Bool.not_true, Bool.not_false, Bool.and_eq_true, Bool.or_eq_true, Bool.or_eq_false_iff, beq_iff_eq, beq_eq_false_iff_ne, ne_eq, Int.not_lt, Int.not_le, Decidable.not_not] at hg45
        refine g_step_yes (j := 2) (t := 45) rfl rfl rfl rfl (s_val (v_move rfl) rfl rfl ?_)
        refine g_step_yes (j := 2) (t := 45) rfl rfl rfl rfl (s_val (v_leq rfl rfl) rfl rfl ?_)
        refine g_step rfl (s_val (v_pick_t rfl rfl) rfl rfl ?_)
        refine g_nil ?_
        refine g_next hK8 ?_
        refine g_cond rfl (fun hc48 => ?_) (fun hc48 => ?_)
        · try simp only [decide_eq_true_eq, decide_eq_false_iff_not, Bool.not_eq_true', Bool.not_eq_false', Bool.not_eq_eq_eq_not, Bool.not_true, Bool.not_false, Bool.and_eq_true, Bool.or_eq_true, Bool.or_eq_false_iff, beq_iff_eq, beq_eq_false_iff_ne, ne_eq, Int.not_lt, Int.not_le, Decidable.not_not] at hc48
          refine g_seq (fun K9 hK9 => ?_)
          refine g_region ?_
          refine g_step rfl (s_fieldAddr ty46 fo46_2 ty3 rfl rfl ?_)
          refine g_step rfl (s_val (v_loadl ty3 rfl rfl rfl rfl) rfl rfl ?_)
          refine g_step rfl (s_fieldAddr ty46 fo46_2 ty3 rfl rfl ?_)
          refine g_step rfl (s_val (v_loadl ty3 rfl rfl rfl rfl) rfl rfl ?_)
          refine g_step rfl (s_val (v_neq rfl rfl) rfl rfl ?_)
          refine g_step rfl (s_val (v_move rfl) rfl rfl ?_)
          refine g_split 54 rfl (fun hg54 => ?_) (fun hg54 => ?_)
          · try simp only [decide_eq_true_eq, decide_eq_false_iff_not, Bool.not_eq_true', Bool.not_eq_false', Bool.not_eq_eq_eq_not, Bool.not_true, Bool.not_false, Bool.and_eq_true, Bool.or_eq_true, Bool.or_eq_false_iff, beq_iff_eq, beq_eq_false_iff_ne, ne_eq, Int.not_lt, Int.not_le, Decidable.not_not] at hg54
            refine g_step_yes (j := 5) (t := 54) rfl rfl rfl rfl (s_fieldAddr ty46 fo46_2 ty3 rfl rfl ?_)
            refine g_step_yes (j := 5) (t := 54) rfl rfl rfl rfl (s_val (v_loadl ty3 rfl rfl rfl rfl) rfl rfl ?_)
            refine g_step_yes (j := 5) (t := 54) rfl rfl rfl rfl (s_val (v_move rfl) rfl rfl ?_)
            refine g_step_yes (j := 5) (t := 54) rfl rfl rfl rfl (s_val (v_sub_ rfl rfl (by omega)) rfl rfl ?_)
            refine g_step_yes (j := 5) (t := 54) rfl rfl rfl rfl (s_val (v_eql rfl rfl) rfl rfl ?_)
            refine g_step rfl (s_val (v_pick_t rfl rfl) rfl rfl ?_)
            refine g_step rfl (s_val (v_assign rfl) rfl rfl ?_)
            refine g_nil ?_
            refine g_next hK9 ?_
            refine g_ret ?_
            refine g_then_ret ?_
            refine g_end1 (.inl rfl) Try.results53 (.tmp rfl) [] (ASub.refl _) (AHeap.sub_refl _) (fun p hp => by cases hp) ⟨rfl, ?_⟩
            first | (cases hA : fnd a id <;> cases hB : fnd b id <;> simp_all [rfind_fst, happ, sp_iff] <;> omega; done) | (cases hA : fnd a id <;> cases hB : fnd b id <;> simp_all [rfind_fst, happ, sp_iff] <;> omega; rfl)
          · try simp only [decide_eq_true_eq, decide_eq_false_iff_not, Bool.not_eq_true', Bool.not_eq_false', Bool.not_eq_eq_eq_not, Bool.not_true, Bool.not_false, Bool.and_eq_true, Bool.or_eq_true, Bool.or_eq_false_iff, beq_iff_eq, beq_eq_false_iff_ne, ne_eq, Int.not_lt, Int.not_le, Decidable.not_not] at hg54
            refine g_step_no (j := 5) (t := 54) rfl rfl rfl rfl rfl rfl rfl ?_
            refine g_step_no (j := 5) (t := 54) rfl rfl rfl rfl rfl rfl rfl ?_
            refine g_step_no (j := 5) (t := 54) rfl rfl rfl rfl rfl rfl rfl ?_
            refine g_step_no (j := 5) (t := 54) rfl rfl rfl rfl rfl rfl rfl ?_
            refine g_step_no (j := 5) (t := 54) rfl rfl rfl rfl rfl rfl rfl ?_
            refine g_step rfl (s_val (v_pick_f rfl rfl) rfl rfl ?_)
            refine g_step rfl (s_val (v_assign rfl) rfl rfl ?_)
            refine g_nil ?_
            refine g_next hK9 ?_
            refine g_ret ?_
            refine g_then_ret ?_
            refine g_end1 (.inl rfl) Try.results53 (.tmp rfl) [] (ASub.refl _) (AHeap.sub_refl _) (fun p hp => by cases hp) ⟨rfl, ?_⟩
            first | (cases hA : fnd a id <;> cases hB : fnd b id <;> simp_all [rfind_fst, happ, sp_iff] <;> omega; done) | (cases hA : fnd a id <;> cases hB : fnd b id <;> simp_all [rfind_fst, happ, sp_iff] <;> omega; rfl)
        · try simp only [decide_eq_true_eq, decide_eq_false_iff_not, Bool.not_eq_true', Bool.not_eq_false', Bool.not_eq_eq_eq_not, Bool.not_true, Bool.not_false, Bool.and_eq_true, Bool.or_eq_true, Bool.or_eq_false_iff, beq_iff_eq, beq_eq_false_iff_ne, ne_eq, Int.not_lt, Int.not_le, Decidable.not_not] at hc48
          refine g_skip ?_
          refine g_next hK7 ?_
          refine g_seq (fun K10 hK10 => ?_)
          refine g_seq (fun K11 hK11 => ?_)
          refine g_region ?_
          refine g_step rfl (s_val (v_move rfl) rfl rfl ?_)
          refine g_step rfl (s_val (v_eql rfl rfl) rfl rfl ?_)
          refine g_nil ?_
          refine g_next hK11 ?_
          refine g_cond rfl (fun hc62 => ?_) (fun hc62 => ?_)
          · try simp only [decide_eq_true_eq, decide_eq_false_iff_not, Bool.not_eq_true', Bool.not_eq_false', Bool.not_eq_eq_eq_not, Bool.not_true, Bool.not_false, Bool.and_eq_true, Bool.or_eq_true, Bool.or_eq_false_iff, beq_iff_eq, beq_eq_false_iff_ne, ne_eq, Int.not_lt, Int.not_le, Decidable.not_not] at hc62
            refine g_seq (fun K12 hK12 => ?_)
            refine g_region ?_
            refine g_step rfl (s_fieldAddr ty46 fo46_2 ty3 rfl rfl ?_)
            refine g_step rfl (s_val (v_loadl ty3 rfl rfl rfl rfl) rfl rfl ?_)
            refine g_step rfl (s_fieldAddr ty46 fo46_2 ty3 rfl rfl ?_)
            refine g_step rfl (s_val (v_loadl ty3 rfl rfl rfl rfl) rfl rfl ?_)
            refine g_step rfl (s_val (v_neq rfl rfl) rfl rfl ?_)
            refine g_step rfl (s_val (v_move rfl) rfl rfl ?_)
            refine g_split 68 rfl (fun hg68 => ?_) (fun hg68 => ?_)
            · try simp only [decide_eq_true_eq, decide_eq_false_iff_not, Bool.not_eq_true', Bool.not_eq_false', Bool.not_eq_eq_eq_not, Bool.not_true, Bool.not_false, Bool.and_eq_true, Bool.or_eq_true, Bool.or_eq_false_iff, beq_iff_eq, beq_eq_false_iff_ne, ne_eq, Int.not_lt, Int.not_le, Decidable.not_not] at hg68
              refine g_step_yes (j := 5) (t := 68) rfl rfl rfl rfl (s_fieldAddr ty46 fo46_2 ty3 rfl rfl ?_)
              refine g_step_yes (j := 5) (t := 68) rfl rfl rfl rfl (s_val (v_loadl ty3 rfl rfl rfl rfl) rfl rfl ?_)
              refine g_step_yes (j := 5) (t := 68) rfl rfl rfl rfl (s_val (v_eql rfl rfl) rfl rfl ?_)
              refine g_step rfl (s_val (v_pick_t rfl rfl) rfl rfl ?_)
              refine g_step rfl (s_val (v_assign rfl) rfl rfl ?_)
              refine g_nil ?_
              refine g_next hK12 ?_
              refine g_ret ?_
              refine g_then_ret ?_
              refine g_end1 (.inl rfl) Try.results53 (.tmp rfl) [] (ASub.refl _) (AHeap.sub_refl _) (fun p hp => by cases hp) ⟨rfl, ?_⟩
              first | (cases hA : fnd a id <;> cases hB : fnd b id <;> simp_all [rfind_fst, happ, sp_iff] <;> omega; done) | (cases hA : fnd a id <;> cases hB : fnd b id <;> simp_all [rfind_fst, happ, sp_iff] <;> omega; rfl)
            · try simp only [decide_eq_true_eq, decide_eq_false_iff_not, Bool.not_eq_true', Bool.not_eq_false', Bool.not_eq_eq_eq_not, Bool.not_true, Bool.not_false, Bool.and_eq_true, Bool.or_eq_true, Bool.or_eq_false_iff, beq_iff_eq, beq_eq_false_iff_ne, ne_eq, Int.not_lt, Int.not_le, Decidable.not_not] at hg68
              refine g_step_no (j := 5) (t := 68) rfl rfl rfl rfl rfl rfl rfl ?_
              refine g_step_no (j := 5) (t := 68) rfl rfl rfl rfl rfl rfl rfl ?_
              refine g_step_no (j := 5) (t := 68) rfl rfl rfl rfl rfl rfl rfl ?_
              refine g_step rfl (s_val (v_pick_f rfl rfl) rfl rfl ?_)
              refine g_step rfl (s_val (v_assign rfl) rfl rfl ?_)
              refine g_nil ?_
              refine g_next hK12 ?_
              refine g_ret ?_
              refine g_then_ret ?_
              refine g_end1 (.inl rfl) Try.results53 (.tmp rfl) [] (ASub.refl _) (AHeap.sub_refl _) (fun p hp => by cases hp) ⟨rfl, ?_⟩
              first | (cases hA : fnd a id <;> cases hB : fnd b id <;> simp_all [rfind_fst, happ, sp_iff] <;> omega; done) | (cases hA : fnd a id <;> cases hB : fnd b id <;> simp_all [rfind_fst, happ, sp_iff] <;> omega; rfl)
          · try simp only [decide_eq_true_eq, decide_eq_false_iff_not, Bool.not_eq_true', Bool.not_eq_false', Bool.not_eq_eq_eq_not, Bool.not_true, Bool.not_false, Bool.and_eq_true, Bool.or_eq_true, Bool.or_eq_false_iff, beq_iff_eq, beq_eq_false_iff_ne, ne_eq, Int.not_lt, Int.not_le, Decidable.not_not] at hc62
            refine g_skip ?_
            refine g_next hK10 ?_
            refine g_seq (fun K13 hK13 => ?_)
            refine g_seq (fun K14 hK14 => ?_)
            refine g_region ?_
            refine g_step rfl (s_val (v_move rfl) rfl rfl ?_)
            refine g_step rfl (s_val (v_eql rfl rfl) rfl rfl ?_)
            refine g_nil ?_
            refine g_next hK14 ?_
            refine g_cond rfl (fun hc74 => ?_) (fun hc74 => ?_)
            · try simp only [decide_eq_true_eq, decide_eq_false_iff_not, Bool.not_eq_true', Bool.not_eq_false', Bool.not_eq_eq_eq_not, Bool.not_true, Bool.not_false, Bool.and_eq_true, Bool.or_eq_true, Bool.or_eq_false_iff, beq_iff_eq, beq_eq_false_iff_ne, ne_eq, Int.not_lt, Int.not_le, Decidable.not_not] at hc74
              refine g_seq (fun K15 hK15 => ?_)
              refine g_region ?_
              refine g_step rfl (s_fieldAddr ty46 fo46_3 ty43 rfl rfl ?_)
              refine g_step rfl (s_fieldAddr ty43 fo43_0 ty3 rfl rfl ?_)
              refine g_step rfl (s_val (v_loadl ty3 rfl rfl rfl rfl) rfl rfl ?_)
              refine g_step rfl (s_fieldAddr ty46 fo46_3 ty43 rfl rfl ?_)
              refine g_step rfl (s_fieldAddr ty43 fo43_0 ty3 rfl rfl ?_)
              refine g_step rfl (s_val (v_loadl ty3 rfl rfl rfl rfl) rfl rfl ?_)
              refine g_step rfl (s_val (v_neq rfl rfl) rfl rfl ?_)
              refine g_step rfl (s_val (v_move rfl) rfl rfl ?_)
              refine g_split 82 rfl (fun hg82 => ?_) (fun hg82 => ?_)
              · try simp only [decide_eq_true_eq, decide_eq_false_iff_not, Bool.not_eq_true', Bool.not_eq_false', Bool.not_eq_eq_eq_not, Bool.not_true, Bool.not_false, Bool.and_eq_true, Bool.or_eq_true, Bool.or_eq_false_iff, beq_iff_eq, beq_eq_false_iff_ne, ne_eq, Int.not_lt, Int.not_le, Decidable.not_not] at hg82
                refine g_step_no (j := 7) (t := 82) rfl rfl rfl rfl rfl rfl rfl ?_
                refine g_step_no (j := 7) (t := 82) rfl rfl rfl rfl rfl rfl rfl ?_
                refine g_step_no (j := 7) (t := 82) rfl rfl rfl rfl rfl rfl rfl ?_
                refine g_step_no (j := 7) (t := 82) rfl rfl rfl rfl rfl rfl rfl ?_
                refine g_step_no (j := 7) (t := 82) rfl rfl rfl rfl rfl rfl rfl ?_
                refine g_step_no (j := 7) (t := 82) rfl rfl rfl rfl rfl rfl rfl ?_
                refine g_step_no (j := 7) (t := 82) rfl rfl rfl rfl rfl rfl rfl ?_
                refine g_step rfl (s_val (v_pick_t rfl rfl) rfl rfl ?_)
                refine g_step rfl (s_val (v_assign rfl) rfl rfl ?_)
                refine g_nil ?_
                refine g_next hK15 ?_
                first | refine g_keep [8] [] [] (keep_cons rfl keep_nil) lkeep_nil keep_nil rfl ?_ | refine g_keep [8] [] [] rfl rfl rfl rfl ?_
                refine g_ret ?_
                refine g_then_ret ?_
                refine g_end1 (.inl rfl) Try.results53 (.tmp rfl) [] (ASub.refl _) (AHeap.sub_refl _) (fun p hp => by cases hp) ⟨rfl, ?_⟩
                first | (cases hA : fnd a id <;> cases hB : fnd b id <;> simp_all [rfind_fst, happ, sp_iff] <;> omega; done) | (cases hA : fnd a id <;> cases hB : fnd b id <;> simp_all [rfind_fst, happ, sp_iff] <;> omega; rfl)
              · try simp only [decide_eq_true_eq, decide_eq_false_iff_not, Bool.not_eq_true', Bool.not_eq_false', Bool.not_eq_eq_eq_not, Bool.not_true, Bool.not_false, Bool.and_eq_true, Bool.or_eq_true, Bool.or_eq_false_iff, beq_iff_eq, beq_eq_false_iff_ne, ne_eq, Int.not_lt, Int.not_le, Decidable.not_not] at hg82
                refine g_step_yes (j := 7) (t := 82) rfl rfl rfl rfl (s_fieldAddr ty46 fo46_3 ty43 rfl rfl ?_)
                refine g_step_yes (j := 7) (t := 82) rfl rfl rfl rfl (s_fieldAddr ty43 fo43_1 ty3 rfl rfl ?_)
                refine g_step_yes (j := 7) (t := 82) rfl rfl rfl rfl (s_val (v_loadl ty3 rfl rfl rfl rfl) rfl rfl ?_)
                refine g_step_yes (j := 7) (t := 82) rfl rfl rfl rfl (s_fieldAddr ty46 fo46_3 ty43 rfl rfl ?_)
                refine g_step_yes (j := 7) (t := 82) rfl rfl rfl rfl (s_fieldAddr ty43 fo43_1 ty3 rfl rfl ?_)
                refine g_step_yes (j := 7) (t := 82) rfl rfl rfl rfl (s_val (v_loadl ty3 rfl rfl rfl rfl) rfl rfl ?_)
                refine g_step_yes (j := 7) (t := 82) rfl rfl rfl rfl (s_val (v_neq rfl rfl) rfl rfl ?_)
                refine g_step rfl (s_val (v_pick_f rfl rfl) rfl rfl ?_)
                refine g_step rfl (s_val (v_assign rfl) rfl rfl ?_)
                refine g_nil ?_
                refine g_next hK15 ?_
                refine g_ret ?_
                refine g_then_ret ?_
                refine g_end1 (.inl rfl) Try.results53 (.tmp rfl) [] (ASub.refl _) (AHeap.sub_refl _) (fun p hp => by cases hp) ⟨rfl, ?_⟩
                first | (cases hA : fnd a id <;> cases hB : fnd b id <;> simp_all [rfind_fst, happ, sp_iff] <;> omega; done) | (cases hA : fnd a id <;> cases hB : fnd b id <;> simp_all [rfind_fst, happ, sp_iff] <;> omega; rfl)
            · try simp only [decide_eq_true_eq, decide_eq_false_iff_not, Bool.not_eq_true', Bool.not_eq_false', Bool.not_eq_eq_eq_not, Bool.not_true, Bool.not_false, Bool.and_eq_true, Bool.or_eq_true, Bool.or_eq_false_iff, beq_iff_eq, beq_eq_false_iff_ne, ne_eq, Int.not_lt, Int.not_le, Decidable.not_not] at hc74
              refine g_skip ?_
              refine g_next hK13 ?_
              refine g_seq (fun K16 hK16 => ?_)
              refine g_seq (fun K17 hK17 => ?_)
              refine g_region ?_
              refine g_step rfl (s_val (v_move rfl) rfl rfl ?_)
              refine g_step rfl (s_val (v_eql rfl rfl) rfl rfl ?_)
              refine g_nil ?_
              refine g_next hK17 ?_
              refine g_cond rfl (fun hc92 => ?_) (fun hc92 => ?_)
              · try simp only [decide_eq_true_eq, decide_eq_false_iff_not, Bool.not_eq_true', Bool.not_eq_false', Bool.not_eq_eq_eq_not, Bool.not_true, Bool.not_false, Bool.and_eq_true, Bool.or_eq_true, Bool.or_eq_false_iff, beq_iff_eq, beq_eq_false_iff_ne, ne_eq, Int.not_lt, Int.not_le, Decidable.not_not] at hc92
                refine g_seq (fun K18 hK18 => ?_)
                refine g_region ?_
                refine g_step rfl (s_fieldAddr ty46 fo46_4 ty4 rfl rfl ?_)
                refine g_step rfl (s_val (v_loadl ty4 rfl rfl rfl rfl) rfl rfl ?_)
                refine g_step rfl (s_fieldAddr ty46 fo46_4 ty4 rfl rfl ?_)
                refine g_step rfl (s_val (v_loadl ty4 rfl rfl rfl rfl) rfl rfl ?_)
                refine g_step rfl (s_val (v_bool_neq ty4 rfl rfl) rfl rfl ?_)
                refine g_step rfl (s_val (v_move rfl) rfl rfl ?_)
                refine g_split 98 rfl (fun hg98 => ?_) (fun hg98 => ?_)
                · try simp only [decide_eq_true_eq, decide_eq_false_iff_not, Bool.not_eq_true', Bool.not_eq_false', Bool.not_eq_eq_eq_not, Bool.not_true, Bool.not_false, Bool.and_eq_true, Bool.or_eq_true, Bool.or_eq_false_iff, beq_iff_eq, beq_eq_false_iff_ne, ne_eq, Int.not_lt, Int.not_le, Decidable.not_not] at hg98
                  refine g_step_no (j := 5) (t := 98) rfl rfl rfl rfl rfl rfl rfl ?_
                  refine g_step_no (j := 5) (t := 98) rfl rfl rfl rfl rfl rfl rfl ?_
                  refine g_step_no (j := 5) (t := 98) rfl rfl rfl rfl rfl rfl rfl ?_
                  refine g_step_no (j := 5) (t := 98) rfl rfl rfl rfl rfl rfl rfl ?_
                  refine g_step_no (j := 5) (t := 98) rfl rfl rfl rfl rfl rfl rfl ?_
                  refine g_step_no (j := 5) (t := 98) rfl rfl rfl rfl rfl rfl rfl ?_
                  refine g_step rfl (s_val (v_pick_t rfl rfl) rfl rfl ?_)
                  refine g_step rfl (s_val (v_assign rfl) rfl rfl ?_)
                  refine g_nil ?_
                  refine g_next hK18 ?_
                  first | refine g_keep [8] [] [] (keep_cons rfl keep_nil) lkeep_nil keep_nil rfl ?_ | refine g_keep [8] [] [] rfl rfl rfl rfl ?_
                  refine g_ret ?_
                  refine g_then_ret ?_
                  refine g_end1 (.inl rfl) Try.results53 (.tmp rfl) [] (ASub.refl _) (AHeap.sub_refl _) (fun p hp => by cases hp) ⟨rfl, ?_⟩
                  first | (cases hA : fnd a id <;> cases hB : fnd b id <;> simp_all [rfind_fst, happ, sp_iff] <;> omega; done) | (cases hA : fnd a id <;> cases hB : fnd b id <;> simp_all [rfind_fst, happ, sp_iff] <;> omega; rfl)
                · try simp only [decide_eq_true_eq, decide_eq_false_iff_not, Bool.not_eq_true', Bool.not_eq_false', Bool.not_eq_eq_eq_not, Bool.not_true, Bool.not_false, Bool.and_eq_true, Bool.or_eq_true, Bool.or_eq_false_iff, beq_iff_eq, beq_eq_false_iff_ne, ne_eq, Int.not_lt, Int.not_le, Decidable.not_not] at hg98
                  refine g_step_yes (j := 5) (t := 98) rfl rfl rfl rfl (s_fieldAddr ty46 fo46_5 ty44 rfl rfl ?_)
                  refine g_step_yes (j := 5) (t := 98) rfl rfl rfl rfl (s_val (v_loadl ty44 rfl rfl rfl rfl) rfl rfl ?_)
                  refine g_step_yes (j := 5) (t := 98) rfl rfl rfl rfl (s_fieldAddr ty46 fo46_5 ty44 rfl rfl ?_)
                  refine g_step_yes (j := 5) (t := 98) rfl rfl rfl rfl (s_val (v_loadl ty44 rfl rfl rfl rfl) rfl rfl ?_)
                  refine g_step_yes (j := 5) (t := 98) rfl rfl rfl rfl (s_callp rfl rfl rfl (bagSame_ok (rfind a id).1.bag (rfind b id).1.bag _ _ _ rfl rfl (rfind_small hsa)) ?_)
                  rintro _ rfl
                  refine g_step_yes (j := 5) (t := 98) rfl rfl rfl rfl (s_val (v_not rfl) rfl rfl ?_)
                  refine g_step rfl (s_val (v_pick_f rfl rfl) rfl rfl ?_)
                  refine g_step rfl (s_val (v_assign rfl) rfl rfl ?_)
                  refine g_nil ?_
                  refine g_next hK18 ?_
                  first | refine g_keep [8] [] [] (keep_cons rfl keep_nil) lkeep_nil keep_nil rfl ?_ | refine g_keep [8] [] [] rfl rfl rfl rfl ?_
                  refine g_ret ?_
                  refine g_then_ret ?_
                  refine g_end1 (.inl rfl) Try.results53 (.tmp rfl) [] (ASub.refl _) (AHeap.sub_refl _) (fun p hp => by cases hp) ⟨rfl, ?_⟩
                  first | (cases hA : fnd a id <;> cases hB : fnd b id <;> simp_all [rfind_fst, happ, sp_iff] <;> omega; done) | (cases hA : fnd a id <;> cases hB : fnd b id <;> simp_all [rfind_fst, happ, sp_iff] <;> omega; rfl)
              · try simp only [decide_eq_true_eq, decide_eq_false_iff_not, Bool.not_eq_true', Bool.not_eq_false', Bool.not_eq_eq_eq_not, Bool.not_true, Bool.not_false, Bool.and_eq_true, Bool.or_eq_true, Bool.or_eq_false_iff, beq_iff_eq, beq_eq_false_iff_ne, ne_eq, Int.not_lt, Int.not_le, Decidable.not_not] at hc92
                refine g_skip ?_
                refine g_next hK16 ?_
                refine g_seq (fun K19 hK19 => ?_)
                refine g_region ?_
                refine g_step rfl (s_val (v_move rfl) rfl rfl ?_)
                refine g_step rfl (s_val (v_eql rfl rfl) rfl rfl ?_)
                refine g_step rfl (s_val (v_move rfl) rfl rfl ?_)
                refine g_split 108 rfl (fun hg108 => ?_) (fun hg108 => ?_)
                · try simp only [decide_eq_true_eq, decide_eq_false_iff_not, Bool.not_eq_true', Bool.not_eq_false', Bool.not_eq_eq_eq_not, Bool.not_true, Bool.not_false, Bool.and_eq_true, Bool.or_eq_true, Bool.or_eq_false_iff, beq_iff_eq, beq_eq_false_iff_ne, ne_eq, Int.not_lt, Int.not_le, Decidable.not_not] at hg108
                  refine g_step_yes (j := 2) (t := 108) rfl rfl rfl rfl (s_fieldAddr ty46 fo46_1 ty3 rfl rfl ?_)
                  refine g_step_yes (j := 2) (t := 108) rfl rfl rfl rfl (s_val (v_loadl ty3 rfl rfl rfl rfl) rfl rfl ?_)
                  refine g_step_yes (j := 2) (t := 108) rfl rfl rfl rfl (s_fieldAddr ty46 fo46_1 ty3 rfl rfl ?_)
                  refine g_step_yes (j := 2) (t := 108) rfl rfl rfl rfl (s_val (v_loadl ty3 rfl rfl rfl rfl) rfl rfl ?_)
                  refine g_step_yes (j := 2) (t := 108) rfl rfl rfl rfl (s_val (v_neq rfl rfl) rfl rfl ?_)
                  refine g_step rfl (s_val (v_pick_t rfl rfl) rfl rfl ?_)
                  refine g_step rfl (s_val (v_assign rfl) rfl rfl ?_)
                  refine g_nil ?_
                  refine g_next hK19 ?_
                  refine g_ret ?_
                  refine g_end1 (.inl rfl) Try.results53 (.tmp rfl) [] (ASub.refl _) (AHeap.sub_refl _) (fun p hp => by cases hp) ⟨rfl, ?_⟩
                  first | (cases hA : fnd a id <;> cases hB : fnd b id <;> simp_all [rfind_fst, happ, sp_iff] <;> omega; done) | (cases hA : fnd a id <;> cases hB : fnd b id <;> simp_all [rfind_fst, happ, sp_iff] <;> omega; rfl)
                · try simp only [decide_eq_true_eq, decide_eq_false_iff_not, Bool.not_eq_true', Bool.not_eq_false', Bool.not_eq_eq_eq_not, Bool.not_true, Bool.not_false, Bool.and_eq_true, Bool.or_eq_true, Bool.or_eq_false_iff, beq_iff_eq, beq_eq_false_iff_ne, ne_eq, Int.not_lt, Int.not_le, Decidable.not_not] at hg108
                  refine g_step_no (j := 2) (t := 108) rfl rfl rfl rfl rfl rfl rfl ?_
                  refine g_step_no (j := 2) (t := 108) rfl rfl rfl rfl rfl rfl rfl ?_
                  refine g_step_no (j := 2) (t := 108) rfl rfl rfl rfl rfl rfl rfl ?_
                  refine g_step_no (j := 2) (t := 108) rfl rfl rfl rfl rfl rfl rfl ?_
                  refine g_step_no (j := 2) (t := 108) rfl rfl rfl rfl rfl rfl rfl ?_
                  refine g_step rfl (s_val (v_pick_f rfl rfl) rfl rfl ?_)
                  refine g_step rfl (s_val (v_assign rfl) rfl rfl ?_)
                  refine g_nil ?_
                  refine g_next hK19 ?_
                  first | refine g_keep [8] [] [] (keep_cons rfl keep_nil) lkeep_nil keep_nil rfl ?_ | refine g_keep [8] [] [] rfl rfl rfl rfl ?_
                  refine g_ret ?_
                  refine g_end1 (.inl rfl) Try.results53 (.tmp rfl) [] (ASub.refl _) (AHeap.sub_refl _) (fun p hp => by cases hp) ⟨rfl, ?_⟩
                  first | (cases hA : fnd a id <;> cases hB : fnd b id <;> simp_all [rfind_fst, happ, sp_iff] <;> omega; done) | (cases hA : fnd a id <;> cases hB : fnd b id <;> simp_all [rfind_fst, happ, sp_iff] <;> omega; rfl)
      · try simp only [decide_eq_true_eq, decide_eq_false_iff_not, Bool.not_eq_true', Bool.not_eq_false', Bool.not_eq_eq_eq_not, Bool.not_true, Bool.not_false, Bool.and_eq_true, Bool.or_eq_true, Bool.or_eq_false_iff, beq_iff_eq, beq_eq_false_iff_ne, ne_eq, Int.not_lt, Int.not_le, Decidable.not_not] at hg45
        refine g_step_no (j := 2) (t := 45) rfl rfl rfl rfl rfl rfl rfl ?_
        refine g_step_no (j := 2) (t := 45) rfl rfl rfl rfl rfl rfl rfl ?_
        refine g_step rfl (s_val (v_pick_f rfl rfl) rfl rfl ?_)
        refine g_nil ?_
        refine g_next hK8 ?_
        refine g_cond rfl (fun h => by cases h) (fun _ => ?_)
        refine g_skip ?_
        refine g_next hK7 ?_
        refine g_seq (fun K20 hK20 => ?_)
        refine g_seq (fun K21 hK21 => ?_)
        refine g_region ?_
        refine g_step rfl (s_val (v_move rfl) rfl rfl ?_)
        refine g_step rfl (s_val (v_eql rfl rfl) rfl rfl ?_)
        refine g_nil ?_
        refine g_next hK21 ?_
        refine g_cond rfl (fun hc62 => ?_) (fun hc62 => ?_)
        · try simp only [decide_eq_true_eq, decide_eq_false_iff_not, Bool.not_eq_true', Bool.not_eq_false', Bool.not_eq_eq_eq_not, Bool.not_true, Bool.not_false, Bool.and_eq_true, Bool.or_eq_true, Bool.or_eq_false_iff, beq_iff_eq, beq_eq_false_iff_ne, ne_eq, Int.not_lt, Int.not_le, Decidable.not_not] at hc62
          refine g_seq (fun K22 hK22 => ?_)
          refine g_region ?_
          refine g_step rfl (s_fieldAddr ty46 fo46_2 ty3 rfl rfl ?_)
          refine g_step rfl (s_val (v_loadl ty3 rfl rfl rfl rfl) rfl rfl ?_)
          refine g_step rfl (s_fieldAddr ty46 fo46_2 ty3 rfl rfl ?_)
          refine g_step rfl (s_val (v_loadl ty3 rfl rfl rfl rfl) rfl rfl ?_)
          refine g_step rfl (s_val (v_neq rfl rfl) rfl rfl ?_)
          refine g_step rfl (s_val (v_move rfl) rfl rfl ?_)
          refine g_split 68 rfl (fun hg68 => ?_) (fun hg68 => ?_)
          · try simp only [decide_eq_true_eq, decide_eq_false_iff_not, Bool.not_eq_true', Bool.not_eq_false', Bool.not_eq_eq_eq_not, Bool.not_true, Bool.not_false, Bool.and_eq_true, Bool.or_eq_true, Bool.or_eq_false_iff, beq_iff_eq, beq_eq_false_iff_ne, ne_eq, Int.not_lt, Int.not_le, Decidable.not_not] at hg68
            refine g_step_yes (j := 5) (t := 68) rfl rfl rfl rfl (s_fieldAddr ty46 fo46_2 ty3 rfl rfl ?_)
            refine g_step_yes (j := 5) (t := 68) rfl rfl rfl rfl (s_val (v_loadl ty3 rfl rfl rfl rfl) rfl rfl ?_)
            refine g_step_yes (j := 5) (t := 68) rfl rfl rfl rfl (s_val (v_eql rfl rfl) rfl rfl ?_)
            refine g_step rfl (s_val (v_pick_t rfl rfl) rfl rfl ?_)
            refine g_step rfl (s_val (v_assign rfl) rfl rfl ?_)
            refine g_nil ?_
            refine g_next hK22 ?_
            refine g_ret ?_
            refine g_then_ret ?_
            refine g_end1 (.inl rfl) Try.results53 (.tmp rfl) [] (ASub.refl _) (AHeap.sub_refl _) (fun p hp => by cases hp) ⟨rfl, ?_⟩
            first | (cases hA : fnd a id <;> cases hB : fnd b id <;> simp_all [rfind_fst, happ, sp_iff] <;> omega; done) | (cases hA : fnd a id <;> cases hB : fnd b id <;> simp_all [rfind_fst, happ, sp_iff] <;> omega; rfl)
          · try simp only [decide_eq_true_eq, decide_eq_false_iff_not, Bool.not_eq_true', Bool.not_eq_false', Bool.not_eq_eq_eq_not, Bool.not_true, Bool.not_false, Bool.and_eq_true, Bool.or_eq_true, Bool.or_eq_false_iff, beq_iff_eq, beq_eq_false_iff_ne, ne_eq, Int.not_lt, Int.not_le, Decidable.not_not] at hg68
            refine g_step_no (j := 5) (t := 68) rfl rfl rfl rfl rfl rfl rfl ?_
            refine g_step_no (j := 5) (t := 68) rfl rfl rfl rfl rfl rfl rfl ?_
            refine g_step_no (j := 5) (t := 68) rfl rfl rfl rfl rfl rfl rfl ?_
            refine g_step rfl (s_val (v_pick_f rfl rfl) rfl rfl ?_)
            refine g_step rfl (s_val (v_assign rfl) rfl rfl ?_)
            refine g_nil ?_
            refine g_next hK22 ?_
            refine g_ret ?_
            refine g_then_ret ?_
            refine g_end1 (.inl rfl) Try.results53 (.tmp rfl) [] (ASub.refl _) (AHeap.sub_refl _) (fun p hp => by cases hp) ⟨rfl, ?_⟩
            first | (cases hA : fnd a id <;> cases hB : fnd b id <;> simp_all [rfind_fst, happ, sp_iff] <;> omega; done) | (cases hA : fnd a id <;> cases hB : fnd b id <;> simp_all [rfind_fst, happ, sp_iff] <;> omega; rfl)
        · try simp only [decide_eq_true_eq, decide_eq_false_iff_not, Bool.not_eq_true', Bool.not_eq_false', Bool.not_eq_eq_eq_not, Bool.not_true, Bool.not_false, Bool.and_eq_true, Bool.or_eq_true, Bool.or_eq_false_iff, beq_iff_eq, beq_eq_false_iff_ne, ne_eq, Int.not_lt, Int.not_le, Decidable.not_not] at hc62
          refine g_skip ?_
          refine g_next hK20 ?_
          refine g_seq (fun K23 hK23 => ?_)
          refine g_seq (fun K24 hK24 => ?_)
          refine g_region ?_
          refine g_step rfl (s_val (v_move rfl) rfl rfl ?_)
          refine g_step rfl (s_val (v_eql rfl rfl) rfl rfl ?_)
          refine g_nil ?_
          refine g_next hK24 ?_
          refine g_cond rfl (fun hc74 => ?_) (fun hc74 => ?_)
          · try simp only [decide_eq_true_eq, decide_eq_false_iff_not, Bool.not_eq_true', Bool.not_eq_false', Bool.not_eq_eq_eq_not, Bool.not_true, Bool.not_false, Bool.and_eq_true, Bool.or_eq_true, Bool.or_eq_false_iff, beq_iff_eq, beq_eq_false_iff_ne, ne_eq, Int.not_lt, Int.not_le, Decidable.not_not] at hc74
            refine g_seq (fun K25 hK25 => ?_)
            refine g_region ?_
            refine g_step rfl (s_fieldAddr ty46 fo46_3 ty43 rfl rfl ?_)
            refine g_step rfl (s_fieldAddr ty43 fo43_0 ty3 rfl rfl ?_)
            refine g_step rfl (s_val (v_loadl ty3 rfl rfl rfl rfl) rfl rfl ?_)
            refine g_step rfl (s_fieldAddr ty46 fo46_3 ty43 rfl rfl ?_)
            refine g_step rfl (s_fieldAddr ty43 fo43_0 ty3 rfl rfl ?_)
            refine g_step rfl (s_val (v_loadl ty3 rfl rfl rfl rfl) rfl rfl ?_)
            refine g_step rfl (s_val (v_neq rfl rfl) rfl rfl ?_)
            refine g_step rfl (s_val (v_move rfl) rfl rfl ?_)
            refine g_split 82 rfl (fun hg82 => ?_) (fun hg82 => ?_)
            · try simp only [decide_eq_true_eq, decide_eq_false_iff_not, Bool.not_eq_true', Bool.not_eq_false', Bool.not_eq_eq_eq_not, Bool.not_true, Bool.not_false, Bool.and_eq_true, Bool.or_eq_true, Bool.or_eq_false_iff, beq_iff_eq, beq_eq_false_iff_ne, ne_eq, Int.not_lt, Int.not_le, Decidable.not_not] at hg82
              refine g_step_no (j := 7) (t := 82) rfl rfl rfl rfl rfl rfl rfl ?_
              refine g_step_no (j := 7) (t := 82) rfl rfl rfl rfl rfl rfl rfl ?_
              refine g_step_no (j := 7) (t := 82) rfl rfl rfl rfl rfl rfl rfl ?_
              refine g_step_no (j := 7) (t := 82) rfl rfl rfl rfl rfl rfl rfl ?_
              refine g_step_no (j := 7) (t := 82) rfl rfl rfl rfl rfl rfl rfl ?_
              refine g_step_no (j := 7) (t := 82) rfl rfl rfl rfl rfl rfl rfl ?_
              refine g_step_no (j := 7) (t := 82) rfl rfl rfl rfl rfl rfl rfl ?_
              refine g_step rfl (s_val (v_pick_t rfl rfl) rfl rfl ?_)
              refine g_step rfl (s_val (v_assign rfl) rfl rfl ?_)
              refine g_nil ?_
              refine g_next hK25 ?_
              first | refine g_keep [8] [] [] (keep_cons rfl keep_nil) lkeep_nil keep_nil rfl ?_ | refine g_keep [8] [] [] rfl rfl rfl rfl ?_
              refine g_ret ?_
              refine g_then_ret ?_
              refine g_end1 (.inl rfl) Try.results53 (.tmp rfl) [] (ASub.refl _) (AHeap.sub_refl _) (fun p hp => by cases hp) ⟨rfl, ?_⟩
              first | (cases hA : fnd a id <;> cases hB : fnd b id <;> simp_all [rfind_fst, happ, sp_iff] <;> omega; done) | (cases hA : fnd a id <;> cases hB : fnd b id <;> simp_all [rfind_fst, happ, sp_iff] <;> omega; rfl)
            · try simp only [decide_eq_true_eq, decide_eq_false_iff_not, Bool.not_eq_true', Bool.not_eq_false', Bool.not_eq_eq_eq_not, Bool.not_true, Bool.not_false, Bool.and_eq_true, Bool.or_eq_true, Bool.or_eq_false_iff, beq_iff_eq, beq_eq_false_iff_ne, ne_eq, Int.not_lt, Int.not_le, Decidable.not_not] at hg82
              refine g_step_yes (j := 7) (t := 82) rfl rfl rfl rfl (s_fieldAddr ty46 fo46_3 ty43 rfl rfl ?_)
              refine g_step_yes (j := 7) (t := 82) rfl rfl rfl rfl (s_fieldAddr ty43 fo43_1 ty3 rfl rfl ?_)
              refine g_step_yes (j := 7) (t := 82) rfl rfl rfl rfl (s_val (v_loadl ty3 rfl rfl rfl rfl) rfl rfl ?_)
              refine g_step_yes (j := 7) (t := 82) rfl rfl rfl rfl (s_fieldAddr ty46 fo46_3 ty43 rfl rfl ?_)
              refine g_step_yes (j := 7) (t := 82) rfl rfl rfl rfl (s_fieldAddr ty43 fo43_1 ty3 rfl rfl ?_)
              refine g_step_yes (j := 7) (t := 82) rfl rfl rfl rfl (s_val (v_loadl ty3 rfl rfl rfl rfl) rfl rfl ?_)
              refine g_step_yes (j := 7) (t := 82) rfl rfl rfl rfl (s_val (v_neq rfl rfl) rfl rfl ?_)
              refine g_step rfl (s_val (v_pick_f rfl rfl) rfl rfl ?_)
              refine g_step rfl (s_val (v_assign rfl) rfl rfl ?_)
              refine g_nil ?_
              refine g_next hK25 ?_
              refine g_ret ?_
              refine g_then_ret ?_
              refine g_end1 (.inl rfl) Try.results53 (.tmp rfl) [] (ASub.refl _) (AHeap.sub_refl _) (fun p hp => by cases hp) ⟨rfl, ?_⟩
              first | (cases hA : fnd a id <;> cases hB : fnd b id <;> simp_all [rfind_fst, happ, sp_iff] <;> omega; done) | (cases hA : fnd a id <;> cases hB : fnd b id <;> simp_all [rfind_fst, happ, sp_iff] <;> omega; rfl)
          · try simp only [decide_eq_true_eq, decide_eq_false_iff_not, Bool.not_eq_true', Bool.not_eq_false', Bool.not_eq_eq_eq_not, Bool.not_true, Bool.not_false, Bool.and_eq_true, Bool.or_eq_true, Bool.or_eq_false_iff, beq_iff_eq, beq_eq_false_iff_ne, ne_eq, Int.not_lt, Int.not_le, Decidable.not_not] at hc74
            refine g_skip ?_
            refine g_next hK23 ?_
            refine g_seq (fun K26 hK26 => ?_)
            refine g_seq (fun K27 hK27 => ?_)
            refine g_region ?_
            refine g_step rfl (s_val (v_move rfl) rfl rfl ?_)
            refine g_step rfl (s_val (v_eql rfl rfl) rfl rfl ?_)
            refine g_nil ?_
            refine g_next hK27 ?_
            refine g_cond rfl (fun hc92 => ?_) (fun hc92 => ?_)
            · try simp only [decide_eq_true_eq, decide_eq_false_iff_not, Bool.not_eq_true', Bool.not_eq_false', Bool.not_eq_eq_eq_not, Bool.not_true, Bool.not_false, Bool.and_eq_true, Bool.or_eq_true, Bool.or_eq_false_iff, beq_iff_eq, beq_eq_false_iff_ne, ne_eq, Int.not_lt, Int.not_le, Decidable.not_not] at hc92
              refine g_seq (fun K28 hK28 => ?_)
              refine g_region ?_
              refine g_step rfl (s_fieldAddr ty46 fo46_4 ty4 rfl rfl ?_)
              refine g_step rfl (s_val (v_loadl ty4 rfl rfl rfl rfl) rfl rfl ?_)
              refine g_step rfl (s_fieldAddr ty46 fo46_4 ty4 rfl rfl ?_)
              refine g_step rfl (s_val (v_loadl ty4 rfl rfl rfl rfl) rfl rfl ?_)
              refine g_step rfl (s_val (v_bool_neq ty4 rfl rfl) rfl rfl ?_)
              refine g_step rfl (s_val (v_move rfl) rfl rfl ?_)
              refine g_split 98 rfl (fun hg98 => ?_) (fun hg98 => ?_)
              · try simp only [decide_eq_true_eq, decide_eq_false_iff_not, Bool.not_eq_true', Bool.not_eq_false', Bool.not_eq_eq_eq_not, Bool.not_true, Bool.not_false, Bool.and_eq_true, Bool.or_eq_true, Bool.or_eq_false_iff, beq_iff_eq, beq_eq_false_iff_ne, ne_eq, Int.not_lt, Int.not_le, Decidable.not_not] at hg98
                refine g_step_no (j := 5) (t := 98) rfl rfl rfl rfl rfl rfl rfl ?_
                refine g_step_no (j := 5) (t := 98) rfl rfl rfl rfl rfl rfl rfl ?_
                refine g_step_no (j := 5) (t := 98) rfl rfl rfl rfl rfl rfl rfl ?_
                refine g_step_no (j := 5) (t := 98) rfl rfl rfl rfl rfl rfl rfl ?_
                refine g_step_no (j := 5) (t := 98) rfl rfl rfl rfl rfl rfl rfl ?_
                refine g_step_no (j := 5) (t := 98) rfl rfl rfl rfl rfl rfl rfl ?_
                refine g_step rfl (s_val (v_pick_t rfl rfl) rfl rfl ?_)
                refine g_step rfl (s_val (v_assign rfl) rfl rfl ?_)
                refine g_nil ?_
                refine g_next hK28 ?_
                first | refine g_keep [8] [] [] (keep_cons rfl keep_nil) lkeep_nil keep_nil rfl ?_ | refine g_keep [8] [] [] rfl rfl rfl rfl ?_
                refine g_ret ?_
                refine g_then_ret ?_
                refine g_end1 (.inl rfl) Try.results53 (.tmp rfl) [] (ASub.refl _) (AHeap.sub_refl _) (fun p hp => by cases hp) ⟨rfl, ?_⟩
                first | (cases hA : fnd a id <;> cases hB : fnd b id <;> simp_all [rfind_fst, happ, sp_iff] <;> omega; done) | (cases hA : fnd a id <;> cases hB : fnd b id <;> simp_all [rfind_fst, happ, sp_iff] <;> omega; rfl)
              · try simp only [decide_eq_true_eq, decide_eq_false_iff_not, Bool.not_eq_true', Bool.not_eq_false', Bool.not_eq_eq_eq_not, Bool.not_true, Bool.not_false, Bool.and_eq_true, Bool.or_eq_true, Bool.or_eq_false_iff, beq_iff_eq, beq_eq_false_iff_ne, ne_eq, Int.not_lt, Int.not_le, Decidable.not_not] at hg98
                refine g_step_yes (j := 5) (t := 98) rfl rfl rfl rfl (s_fieldAddr ty46 fo46_5 ty44 rfl rfl ?_)
                refine g_step_yes (j := 5) (t := 98) rfl rfl rfl rfl (s_val (v_loadl ty44 rfl rfl rfl rfl) rfl rfl ?_)
                refine g_step_yes (j := 5) (t := 98) rfl rfl rfl rfl (s_fieldAddr ty46 fo46_5 ty44 rfl rfl ?_)
                refine g_step_yes (j := 5) (t := 98) rfl rfl rfl rfl (s_val (v_loadl ty44 rfl rfl rfl rfl) rfl rfl ?_)
                refine g_step_yes (j := 5) (t := 98) rfl rfl rfl rfl (s_callp rfl rfl rfl (bagSame_ok (rfind a id).1.bag (rfind b id).1.bag _ _ _ rfl rfl (rfind_small hsa)) ?_)
                rintro _ rfl
                refine g_step_yes (j := 5) (t := 98) rfl rfl rfl rfl (s_val (v_not rfl) rfl rfl ?_)
                refine g_step rfl (s_val (v_pick_f rfl rfl) rfl rfl ?_)
                refine g_step rfl (s_val (v_assign rfl) rfl rfl ?_)
                refine g_nil ?_
                refine g_next hK28 ?_
                first | refine g_keep [8] [] [] (keep_cons rfl keep_nil) lkeep_nil keep_nil rfl ?_ | refine g_keep [8] [] [] rfl rfl rfl rfl ?_
                refine g_ret ?_
                refine g_then_ret ?_
                refine g_end1 (.inl rfl) Try.results53 (.tmp rfl) [] (ASub.refl _) (AHeap.sub_refl _) (fun p hp => by cases hp) ⟨rfl, ?_⟩
                first | (cases hA : fnd a id <;> cases hB : fnd b id <;> simp_all [rfind_fst, happ, sp_iff] <;> omega; done) | (cases hA : fnd a id <;> cases hB : fnd b id <;> simp_all [rfind_fst, happ, sp_iff] <;> omega; rfl)
            · try simp only [decide_eq_true_eq, decide_eq_false_iff_not, Bool.not_eq_true', Bool.not_eq_false', Bool.not_eq_eq_eq_not, Bool.not_true, Bool.not_false, Bool.and_eq_true, Bool.or_eq_true, Bool.or_eq_false_iff, beq_iff_eq, beq_eq_false_iff_ne, ne_eq, Int.not_lt, Int.not_le, Decidable.not_not] at hc92
              refine g_skip ?_
              refine g_next hK26 ?_
              refine g_seq (fun K29 hK29 => ?_)
              refine g_region ?_
              refine g_step rfl (s_val (v_move rfl) rfl rfl ?_)
              refine g_step rfl (s_val (v_eql rfl rfl) rfl rfl ?_)
              refine g_step rfl (s_val (v_move rfl) rfl rfl ?_)
              refine g_split 108 rfl (fun hg108 => ?_) (fun hg108 => ?_)
              · try simp only [decide_eq_true_eq, decide_eq_false_iff_not, Bool.not_eq_true', Bool.not_eq_false', Bool.not_eq_eq_eq_not, Bool.not_true, Bool.not_false, Bool.and_eq_true, Bool.or_eq_true, Bool.or_eq_false_iff, beq_iff_eq, beq_eq_false_iff_ne, ne_eq, Int.not_lt, Int.not_le, Decidable.not_not] at hg108
                refine g_step_yes (j := 2) (t := 108) rfl rfl rfl rfl (s_fieldAddr ty46 fo46_1 ty3 rfl rfl ?_)
                refine g_step_yes (j := 2) (t := 108) rfl rfl rfl rfl (s_val (v_loadl ty3 rfl rfl rfl rfl) rfl rfl ?_)
                refine g_step_yes (j := 2) (t := 108) rfl rfl rfl rfl (s_fieldAddr ty46 fo46_1 ty3 rfl rfl ?_)
                refine g_step_yes (j := 2) (t := 108) rfl rfl rfl rfl (s_val (v_loadl ty3 rfl rfl rfl rfl) rfl rfl ?_)
                refine g_step_yes (j := 2) (t := 108) rfl rfl rfl rfl (s_val (v_neq rfl rfl) rfl rfl ?_)
                refine g_step rfl (s_val (v_pick_t rfl rfl) rfl rfl ?_)
                refine g_step rfl (s_val (v_assign rfl) rfl rfl ?_)
                refine g_nil ?_
                refine g_next hK29 ?_
                refine g_ret ?_
                refine g_end1 (.inl rfl) Try.results53 (.tmp rfl) [] (ASub.refl _) (AHeap.sub_refl _) (fun p hp => by cases hp) ⟨rfl, ?_⟩
                first | (cases hA : fnd a id <;> cases hB : fnd b id <;> simp_all [rfind_fst, happ, sp_iff] <;> omega; done) | (cases hA : fnd a id <;> cases hB : fnd b id <;> simp_all [rfind_fst, happ, sp_iff] <;> omega; rfl)
              · try simp only [decide_eq_true_eq, decide_eq_false_iff_not, Bool.not_eq_true', Bool.not_eq_false', Bool.not_eq_eq_eq_not, Bool.not_true, Bool.not_false, Bool.and_eq_true, Bool.or_eq_true, Bool.or_eq_false_iff, beq_iff_eq, beq_eq_false_iff_ne, ne_eq, Int.not_lt, Int.not_le, Decidable.not_not] at hg108
                refine g_step_no (j := 2) (t := 108) rfl rfl rfl rfl rfl rfl rfl ?_
                refine g_step_no (j := 2) (t := 108) rfl rfl rfl rfl rfl rfl rfl ?_
                refine g_step_no (j := 2) (t := 108) rfl rfl rfl rfl rfl rfl rfl ?_
                refine g_step_no (j := 2) (t := 108) rfl rfl rfl rfl rfl rfl rfl ?_
                refine g_step_no (j := 2) (t := 108) rfl rfl rfl rfl rfl rfl rfl ?_
                refine g_step rfl (s_val (v_pick_f rfl rfl) rfl rfl ?_)
                refine g_step rfl (s_val (v_assign rfl) rfl rfl ?_)
                refine g_nil ?_
                refine g_next hK29 ?_
                first | refine g_keep [8] [] [] (keep_cons rfl keep_nil) lkeep_nil keep_nil rfl ?_ | refine g_keep [8] [] [] rfl rfl rfl rfl ?_
                refine g_ret ?_
                refine g_end1 (.inl rfl) Try.results53 (.tmp rfl) [] (ASub.refl _) (AHeap.sub_refl _) (fun p hp => by cases hp) ⟨rfl, ?_⟩
                first | (cases hA : fnd a id <;> cases hB : fnd b id <;> simp_all [rfind_fst, happ, sp_iff] <;> omega; done) | (cases hA : fnd a id <;> cases hB : fnd b id <;> simp_all [rfind_fst, happ, sp_iff] <;> omega; rfl)

theorem same44_ok (a b : List Ev) (G : AHeap) (va vb : AV) (hva : va.view G = some (a.map encE)) (hvb : vb.view G = some (b.map encE)) (hl : a.length ≤ 1000000) : PCalls Try.prog 15 [va, vb] G (fun r => r = .bool (decide (a = b))) := by
  refine LCalls.intro 41 fi15 rfl Try.ntmps15 rfl (fun _ h => h.elim) (fun H hH w0 hw0 => ?_)
  have hva := view_sub hH hva
  have hvb := view_sub hH hvb
  refine g_seq (fun K0 hK0 => ?_)
  refine g_region ?_
  refine g_step rfl (s_val (v_assign rfl) rfl rfl ?_)
  refine g_nil ?_
  refine g_next hK0 ?_
  refine g_seq (fun K1 hK1 => ?_)
  refine g_seq (fun K2 hK2 => ?_)
  refine g_region ?_
  refine g_step rfl (s_val (v_move rfl) rfl rfl ?_)
  refine g_step rfl (s_val (v_len ty25 rfl (by first | rfl | assumption) (by first | exact List.length_map .. | rfl)) rfl rfl ?_)
  refine g_step rfl (s_val (v_move rfl) rfl rfl ?_)
  refine g_step rfl (s_val (v_len ty25 rfl (by first | rfl | assumption) (by first | exact List.length_map .. | rfl)) rfl rfl ?_)
  refine g_step rfl (s_val (v_neq rfl rfl) rfl rfl ?_)
  refine g_nil ?_
  refine g_next hK2 ?_
  refine g_cond rfl (fun hc10 => ?_) (fun hc10 => ?_)
  · try simp only [decide_eq_true_eq, decide_eq_false_iff_not, Bool.not_eq_true', Bool.not_eq_false', Bool.not_eq_eq_eq_not, Bool.not_true, Bool.not_false, Bool.and_eq_true, Bool.or_eq_true, Bool.or_eq_false_iff, beq_iff_eq, beq_eq_false_iff_ne, ne_eq, Int.not_lt, Int.not_le, Decidable.not_not] at hc10
    have hne : a ≠ b := fun e => hc10 (by rw [e])
    refine g_seq (fun K3 hK3 => ?_)
    refine g_region ?_
    refine g_step rfl (s_val (v_assign rfl) rfl rfl ?_)
    refine g_nil ?_
    refine g_next hK3 ?_
    refine g_ret ?_
    refine g_then_ret ?_
    refine g_end1 (.inl rfl) Try.results15 (.tmp rfl) [] (ASub.refl _) (AHeap.sub_refl _) (fun p hp => by cases hp) ⟨rfl, ?_⟩
    first | (simp [hne]; done) | (simp [hne]; rfl)
  · try simp only [decide_eq_true_eq, decide_eq_false_iff_not, Bool.not_eq_true', Bool.not_eq_false', Bool.not_eq_eq_eq_not, Bool.not_true, Bool.not_false, Bool.and_eq_true, Bool.or_eq_true, Bool.or_eq_false_iff, beq_iff_eq, beq_eq_false_iff_ne, ne_eq, Int.not_lt, Int.not_le, Decidable.not_not] at hc10
    refine g_skip ?_
    refine g_next hK1 ?_
    refine g_seq (fun K4 hK4 => ?_)
    refine g_seq (fun K5 hK5 => ?_)
    refine g_region ?_
    refine g_step rfl (s_val (v_assign rfl) rfl rfl ?_)
    refine g_nil ?_
    refine g_next hK5 ?_
    refine g_block ?_
    first | refine g_keep [0, 1, 5] [] [] (keep_cons rfl (keep_cons rfl (keep_cons rfl keep_nil))) lkeep_nil keep_nil rfl ?_ | refine g_keep [0, 1, 5] [] [] rfl rfl rfl rfl ?_
    refine g_loop (fun n env L B G => ∃ (k : Nat) , k ≤ a.length ∧ n = a.length - k ∧ env = [(0, va), (1, vb), (5, .int .i64 (k : Int))] ∧ L = [] ∧ B = [] ∧ H = G ∧ a.take k = b.take k) (a.length) ⟨0, Nat.zero_le _, rfl, rfl, rfl, rfl, rfl, rfl⟩ (fun n env L B G hI => ?_)
    obtain ⟨k, hk, rfl, rfl, rfl, rfl, rfl, hc⟩ := hI
    refine g_seq (fun K6 hK6 => ?_)
    refine g_seq (fun K7 hK7 => ?_)
    refine g_region ?_
    refine g_step rfl (s_val (v_move rfl) rfl rfl ?_)
    refine g_step rfl (s_val (v_move rfl) rfl rfl ?_)
    refine g_step rfl (s_val (v_len ty25 rfl (by first | rfl | assumption) (by first | exact List.length_map .. | rfl)) rfl rfl ?_)
    refine g_step rfl (s_val (v_lss rfl rfl) rfl rfl ?_)
    refine g_nil ?_
    refine g_next hK7 ?_
    refine g_cond rfl (fun hc14 => ?_) (fun hc14 => ?_)
    · try simp only [decide_eq_true_eq, decide_eq_false_iff_not, Bool.not_eq_true', Bool.not_eq_false', Bool.not_eq_eq_eq_not, Bool.not_true, Bool.not_false, Bool.and_eq_true, Bool.or_eq_true, Bool.or_eq_false_iff, beq_iff_eq, beq_eq_false_iff_ne, ne_eq, Int.not_lt, Int.not_le, Decidable.not_not] at hc14
      obtain ⟨x, hx⟩ := get_some (l := a) (k := k) (by omega)
      obtain ⟨y, hy⟩ := get_some (l := b) (k := k) (by omega)
      refine g_skip ?_
      refine g_next hK6 ?_
      refine g_seq (fun K8 hK8 => ?_)
      refine g_block ?_
      refine g_seq (fun K9 hK9 => ?_)
      refine g_draw (n := 24) (fun j => !([] : List Nat).contains j) rfl rfl ?_
      refine m_take 0 false rfl rfl (by kernel_rfl) (by kernel_rfl) (by kernel_rfl) (fun _ _ _ _ h => h) (v_move rfl) rfl rfl ?_
      refine m_take 1 false rfl rfl (by kernel_rfl) (by kernel_rfl) (by kernel_rfl) (fun _ _ _ _ h => h) (v_move rfl) rfl rfl ?_
      refine m_take 2 false rfl rfl (by kernel_rfl) (by kernel_rfl) (by kernel_rfl) (fun _ _ _ _ h => h) (v_indexAddr ty25 ty37 rfl rfl (by first | rfl | assumption) (by first | rfl | exact (rfl : (0 : Int) = ((0 : Nat) : Int)) | exact (Int.toNat_of_nonneg (by omega)).symm) (by first | assumption | exact map_get (by assumption) | rfl) rfl) rfl rfl ?_
      refine m_take 3 false rfl rfl (by kernel_rfl) (by kernel_rfl) (by kernel_rfl) (fun _ _ _ _ h => h) (by first | exact v_fieldAddr ty37 fo37_0 ty35 rfl | exact v_fieldAddr_box ty37 fo37_0 ty35 rfl) rfl rfl ?_
      refine m_take 4 true rfl rfl (by kernel_rfl) (by kernel_rfl) (by kernel_rfl) (fun _ _ _ _ h => h) (by first | exact v_load ty35 rfl rfl (by first | rfl | assumption) (by first | assumption | exact map_get (by assumption) | rfl) rfl | exact v_load_box ty35 rfl rfl (by assumption) rfl) rfl rfl ?_
      refine m_take 5 false rfl rfl (by kernel_rfl) (by kernel_rfl) (by kernel_rfl) (fun _ _ _ _ h => h) (v_move rfl) rfl rfl ?_
      refine m_take 6 false rfl rfl (by kernel_rfl) (by kernel_rfl) (by kernel_rfl) (fun _ _ _ _ h => h) (v_move rfl) rfl rfl ?_
      refine m_take 7 false rfl rfl (by kernel_rfl) (by kernel_rfl) (by kernel_rfl) (fun _ _ _ _ h => h) (v_indexAddr ty25 ty37 rfl rfl (by first | rfl | assumption) (by first | rfl | exact (rfl : (0 : Int) = ((0 : Nat) : Int)) | exact (Int.toNat_of_nonneg (by omega)).symm) (by first | assumption | exact map_get (by assumption) | rfl) rfl) rfl rfl ?_
      refine m_take 8 false rfl rfl (by kernel_rfl) (by kernel_rfl) (by kernel_rfl) (fun _ _ _ _ h => h) (by first | exact v_fieldAddr ty37 fo37_0 ty35 rfl | exact v_fieldAddr_box ty37 fo37_0 ty35 rfl) rfl rfl ?_
      refine m_take 9 true rfl rfl (by kernel_rfl) (by kernel_rfl) (by kernel_rfl) (fun _ _ _ _ h => h) (by first | exact v_load ty35 rfl rfl (by first | rfl | assumption) (by first | assumption | exact map_get (by assumption) | rfl) rfl | exact v_load_box ty35 rfl rfl (by assumption) rfl) rfl rfl ?_
      refine m_take 10 false rfl rfl (by kernel_rfl) (by kernel_rfl) (by kernel_rfl) (fun _ _ _ _ h => h) (v_neq rfl rfl) rfl rfl ?_
      refine m_take 11 false rfl rfl (by kernel_rfl) (by kernel_rfl) (by kernel_rfl) (fun _ _ _ _ h => h) (v_move rfl) rfl rfl ?_
      refine m_split 28 rfl (fun hg28 => ?_) (fun hg28 => ?_)
      · try simp only [decide_eq_true_eq, decide_eq_false_iff_not, Bool.not_eq_true', Bool.not_eq_false', Bool.not_eq_eq_eq_not, Bool.not_true, Bool.not_false, Bool.and_eq_true, Bool.or_eq_true, Bool.or_eq_false_iff, beq_iff_eq, beq_eq_false_iff_ne, ne_eq, Int.not_lt, Int.not_le, Decidable.not_not] at hg28
        refine m_take_no (j := 11) (t := 28) 12 rfl rfl rfl rfl rfl rfl (by kernel_rfl) (by kernel_rfl) (by kernel_rfl) (fun _ _ _ _ h => h) rfl rfl ?_
        refine m_take_no (j := 11) (t := 28) 13 rfl rfl rfl rfl rfl rfl (by kernel_rfl) (by kernel_rfl) (by kernel_rfl) (fun _ _ _ _ h => h) rfl rfl ?_
        refine m_take_no (j := 11) (t := 28) 14 rfl rfl rfl rfl rfl rfl (by kernel_rfl) (by kernel_rfl) (by kernel_rfl) (fun _ _ _ _ h => h) rfl rfl ?_
        refine m_take_no (j := 11) (t := 28) 15 rfl rfl rfl rfl rfl rfl (by kernel_rfl) (by kernel_rfl) (by kernel_rfl) (fun _ _ _ _ h => h) rfl rfl ?_
        refine m_take_no (j := 11) (t := 28) 16 rfl rfl rfl rfl rfl rfl (by kernel_rfl) (by kernel_rfl) (by kernel_rfl) (fun _ _ _ _ h => h) rfl rfl ?_
        refine m_take_no (j := 11) (t := 28) 17 rfl rfl rfl rfl rfl rfl (by kernel_rfl) (by kernel_rfl) (by kernel_rfl) (fun _ _ _ _ h => h) rfl rfl ?_
        refine m_take_no (j := 11) (t := 28) 18 rfl rfl rfl rfl rfl rfl (by kernel_rfl) (by kernel_rfl) (by kernel_rfl) (fun _ _ _ _ h => h) rfl rfl ?_
        refine m_take_no (j := 11) (t := 28) 19 rfl rfl rfl rfl rfl rfl (by kernel_rfl) (by kernel_rfl) (by kernel_rfl) (fun _ _ _ _ h => h) rfl rfl ?_
        refine m_take_no (j := 11) (t := 28) 20 rfl rfl rfl rfl rfl rfl (by kernel_rfl) (by kernel_rfl) (by kernel_rfl) (fun _ _ _ _ h => h) rfl rfl ?_
        refine m_take_no (j := 11) (t := 28) 21 rfl rfl rfl rfl rfl rfl (by kernel_rfl) (by kernel_rfl) (by kernel_rfl) (fun _ _ _ _ h => h) rfl rfl ?_
        refine m_take_no (j := 11) (t := 28) 22 rfl rfl rfl rfl rfl rfl (by kernel_rfl) (by kernel_rfl) (by kernel_rfl) (fun _ _ _ _ h => h) rfl rfl ?_
        refine m_take 23 false rfl rfl (by kernel_rfl) (by kernel_rfl) (by kernel_rfl) (fun _ _ _ _ h => h) (v_pick_t rfl rfl) rfl rfl ?_
        refine m_done (by kernel_rfl) ?_
        refine g_next hK9 ?_
        first | refine g_keep [0, 1, 5, 40] [] [] (keep_cons rfl (keep_cons rfl (keep_cons rfl (keep_cons rfl keep_nil)))) lkeep_nil keep_nil rfl ?_ | refine g_keep [0, 1, 5, 40] [] [] rfl rfl rfl rfl ?_
        refine g_cond rfl (fun _ => ?_) (fun h => by cases h)
        refine g_seq (fun K10 hK10 => ?_)
        refine g_region ?_
        refine g_step rfl (s_val (v_assign rfl) rfl rfl ?_)
        refine g_nil ?_
        refine g_next hK10 ?_
        refine g_ret ?_
        refine g_block_ret ?_
        refine g_then_ret ?_
        refine g_then_ret ?_
        refine g_block_ret ?_
        refine g_then_ret ?_
        refine g_end1 (.inl rfl) Try.results15 (.tmp rfl) [] (ASub.refl _) (AHeap.sub_refl _) (fun p hp => by cases hp) ⟨rfl, ?_⟩
        first | (rw [decide_eq_false (fun e => by subst e; rw [hx] at hy; cases hy; simp_all)]; done) | (rw [decide_eq_false (fun e => by subst e; rw [hx] at hy; cases hy; simp_all)]; rfl)
      · try simp only [decide_eq_true_eq, decide_eq_false_iff_not, Bool.not_eq_true', Bool.not_eq_false', Bool.not_eq_eq_eq_not, Bool.not_true, Bool.not_false, Bool.and_eq_true, Bool.or_eq_true, Bool.or_eq_false_iff, beq_iff_eq, beq_eq_false_iff_ne, ne_eq, Int.not_lt, Int.not_le, Decidable.not_not] at hg28
        refine m_take_yes (j := 11) (t := 28) 12 false rfl rfl rfl rfl rfl (by kernel_rfl) (by kernel_rfl) (by kernel_rfl) (fun _ _ _ _ h => h) (v_move rfl) rfl rfl ?_
        refine m_take_yes (j := 11) (t := 28) 13 false rfl rfl rfl rfl rfl (by kernel_rfl) (by kernel_rfl) (by kernel_rfl) (fun _ _ _ _ h => h) (v_move rfl) rfl rfl ?_
        refine m_take_yes (j := 11) (t := 28) 14 false rfl rfl rfl rfl rfl (by kernel_rfl) (by kernel_rfl) (by kernel_rfl) (fun _ _ _ _ h => h) (v_indexAddr ty25 ty37 rfl rfl (by first | rfl | assumption) (by first | rfl | exact (rfl : (0 : Int) = ((0 : Nat) : Int)) | exact (Int.toNat_of_nonneg (by omega)).symm) (by first | assumption | exact map_get (by assumption) | rfl) rfl) rfl rfl ?_
        refine m_take_yes (j := 11) (t := 28) 15 false rfl rfl rfl rfl rfl (by kernel_rfl) (by kernel_rfl) (by kernel_rfl) (fun _ _ _ _ h => h) (by first | exact v_fieldAddr ty37 fo37_1 ty3 rfl | exact v_fieldAddr_box ty37 fo37_1 ty3 rfl) rfl rfl ?_
        refine m_take_yes (j := 11) (t := 28) 16 true rfl rfl rfl rfl rfl (by kernel_rfl) (by kernel_rfl) (by kernel_rfl) (fun _ _ _ _ h => h) (by first | exact v_load ty3 rfl rfl (by first | rfl | assumption) (by first | assumption | exact map_get (by assumption) | rfl) rfl | exact v_load_box ty3 rfl rfl (by assumption) rfl) rfl rfl ?_
        refine m_take_yes (j := 11) (t := 28) 17 false rfl rfl rfl rfl rfl (by kernel_rfl) (by kernel_rfl) (by kernel_rfl) (fun _ _ _ _ h => h) (v_move rfl) rfl rfl ?_
        refine m_take_yes (j := 11) (t := 28) 18 false rfl rfl rfl rfl rfl (by kernel_rfl) (by kernel_rfl) (by kernel_rfl) (fun _ _ _ _ h => h) (v_move rfl) rfl rfl ?_
        refine m_take_yes (j := 11) (t := 28) 19 false rfl rfl rfl rfl rfl (by kernel_rfl) (by kernel_rfl) (by kernel_rfl) (fun _ _ _ _ h => h) (v_indexAddr ty25 ty37 rfl rfl (by first | rfl | assumption) (by first | rfl | exact (rfl : (0 : Int) = ((0 : Nat) : Int)) | exact (Int.toNat_of_nonneg (by omega)).symm) (by first | assumption | exact map_get (by assumption) | rfl) rfl) rfl rfl ?_
        refine m_take_yes (j := 11) (t := 28) 20 false rfl rfl rfl rfl rfl (by kernel_rfl) (by kernel_rfl) (by kernel_rfl) (fun _ _ _ _ h => h) (by first | exact v_fieldAddr ty37 fo37_1 ty3 rfl | exact v_fieldAddr_box ty37 fo37_1 ty3 rfl) rfl rfl ?_
        refine m_take_yes (j := 11) (t := 28) 21 true rfl rfl rfl rfl rfl (by kernel_rfl) (by kernel_rfl) (by kernel_rfl) (fun _ _ _ _ h => h) (by first | exact v_load ty3 rfl rfl (by first | rfl | assumption) (by first | assumption | exact map_get (by assumption) | rfl) rfl | exact v_load_box ty3 rfl rfl (by assumption) rfl) rfl rfl ?_
        refine m_take_yes (j := 11) (t := 28) 22 false rfl rfl rfl rfl rfl (by kernel_rfl) (by kernel_rfl) (by kernel_rfl) (fun _ _ _ _ h => h) (v_neq rfl rfl) rfl rfl ?_
        refine m_take 23 false rfl rfl (by kernel_rfl) (by kernel_rfl) (by kernel_rfl) (fun _ _ _ _ h => h) (v_pick_f rfl rfl) rfl rfl ?_
        refine m_done (by kernel_rfl) ?_
        refine g_next hK9 ?_
        first | refine g_keep [0, 1, 5, 40] [] [] (keep_cons rfl (keep_cons rfl (keep_cons rfl (keep_cons rfl keep_nil)))) lkeep_nil keep_nil rfl ?_ | refine g_keep [0, 1, 5, 40] [] [] rfl rfl rfl rfl ?_
        refine g_cond rfl (fun hc40 => ?_) (fun hc40 => ?_)
        · try simp only [decide_eq_true_eq, decide_eq_false_iff_not, Bool.not_eq_true', Bool.not_eq_false', Bool.not_eq_eq_eq_not, Bool.not_true, Bool.not_false, Bool.and_eq_true, Bool.or_eq_true, Bool.or_eq_false_iff, beq_iff_eq, beq_eq_false_iff_ne, ne_eq, Int.not_lt, Int.not_le, Decidable.not_not] at hc40
          refine g_seq (fun K11 hK11 => ?_)
          refine g_region ?_
          refine g_step rfl (s_val (v_assign rfl) rfl rfl ?_)
          refine g_nil ?_
          refine g_next hK11 ?_
          refine g_ret ?_
          refine g_block_ret ?_
          refine g_then_ret ?_
          refine g_then_ret ?_
          refine g_block_ret ?_
          refine g_then_ret ?_
          refine g_end1 (.inl rfl) Try.results15 (.tmp rfl) [] (ASub.refl _) (AHeap.sub_refl _) (fun p hp => by cases hp) ⟨rfl, ?_⟩
          first | (rw [decide_eq_false (fun e => by subst e; rw [hx] at hy; cases hy; simp_all)]; done) | (rw [decide_eq_false (fun e => by subst e; rw [hx] at hy; cases hy; simp_all)]; rfl)
        · try simp only [decide_eq_true_eq, decide_eq_false_iff_not, Bool.not_eq_true', Bool.not_eq_false', Bool.not_eq_eq_eq_not, Bool.not_true, Bool.not_false, Bool.and_eq_true, Bool.or_eq_true, Bool.or_eq_false_iff, beq_iff_eq, beq_eq_false_iff_ne, ne_eq, Int.not_lt, Int.not_le, Decidable.not_not] at hc40
          refine g_skip ?_
          refine g_block_normal ?_
          refine g_next hK8 ?_
          refine g_region ?_
          refine g_step rfl (s_val (v_move rfl) rfl rfl ?_)
          refine g_step rfl (s_val (v_add rfl rfl (by omega)) rfl rfl ?_)
          refine g_step rfl (s_val (v_assign rfl) rfl rfl ?_)
          refine g_nil ?_
          first | refine g_keep [0, 1, 5] [] [] (keep_cons rfl (keep_cons rfl (keep_cons rfl keep_nil))) lkeep_nil keep_nil rfl ?_ | refine g_keep [0, 1, 5] [] [] rfl rfl rfl rfl ?_
          exact g_round _ (by omega) ⟨k + 1, by omega, rfl, rfl, rfl, rfl, rfl, by rw [List.take_add_one, List.take_add_one, hc, hx, hy, ev_ext (x := x) (y := y) (by omega) (by omega)]⟩
    · try simp only [decide_eq_true_eq, decide_eq_false_iff_not, Bool.not_eq_true', Bool.not_eq_false', Bool.not_eq_eq_eq_not, Bool.not_true, Bool.not_false, Bool.and_eq_true, Bool.or_eq_true, Bool.or_eq_false_iff, beq_iff_eq, beq_eq_false_iff_ne, ne_eq, Int.not_lt, Int.not_le, Decidable.not_not] at hc14
      obtain rfl : k = a.length := by omega
      have hab : a = b := by rw [List.take_length, List.take_of_length_le (by omega)] at hc; exact hc
      refine g_exit ?_
      refine g_then_exit ?_
      refine g_then_exit ?_
      refine g_block_same ?_
      refine g_next hK4 ?_
      refine g_seq (fun K12 hK12 => ?_)
      refine g_region ?_
      refine g_step rfl (s_val (v_assign rfl) rfl rfl ?_)
      refine g_nil ?_
      refine g_next hK12 ?_
      refine g_ret ?_
      refine g_end1 (.inl rfl) Try.results15 (.tmp rfl) [] (ASub.refl _) (AHeap.sub_refl _) (fun p hp => by cases hp) ⟨rfl, ?_⟩
      first | (simp [hab]; done) | (simp [hab]; rfl)

theorem between44O (a b : List Rc) (G : AHeap) (hla : a.length ≤ 1000000) (hlb : b.length ≤ 1000000) (hsa : ∀ x ∈ a, Small x.bag) (hsb : ∀ x ∈ b, Small x.bag) (ha : srt a = true) (hb : srt b = true) : LCalls Try.prog 16 [encRs a, encRs b] G noD (fun n r effs => OwnR n 2 r ((evL a b).map encE) effs) := by
  refine LCalls.intro 96 fi16 rfl Try.ntmps16 rfl (fun _ h => h.elim) (fun H hH w0 hw0 => ?_)
  refine g_seq (fun K0 hK0 => ?_)
  refine g_region ?_
  refine g_step rfl (s_val (v_assign rfl) rfl rfl ?_)
  refine g_nil ?_
  refine g_next hK0 ?_
  refine g_seq (fun K1 hK1 => ?_)
  refine g_region ?_
  refine g_step rfl (s_val (v_assign rfl) rfl rfl ?_)
  refine g_nil ?_
  refine g_next hK1 ?_
  refine g_seq (fun K2 hK2 => ?_)
  refine g_region ?_
  refine g_step rfl (s_val (v_assign rfl) rfl rfl ?_)
  refine g_nil ?_
  refine g_next hK2 ?_
  refine g_seq (fun K3 hK3 => ?_)
  refine g_seq (fun K4 hK4 => ?_)
  refine g_region ?_
  refine g_step rfl (s_val (v_assign rfl) rfl rfl ?_)
  refine g_nil ?_
  refine g_next hK4 ?_
  refine g_block ?_
  first | refine g_keep [0, 1, 5, 6, 7] [] [] (keep_cons rfl (keep_cons rfl (keep_cons rfl (keep_cons rfl (keep_cons rfl keep_nil))))) lkeep_nil keep_nil rfl ?_ | refine g_keep [0, 1, 5, 6, 7] [] [] rfl rfl rfl rfl ?_
  refine g_loop (fun n env L B G => ∃ (t : Nat) (id : Int) (av : AV) (acc : List Ev), t ≤ (a.length + b.length) ∧ n = (a.length + b.length) - t ∧ env = [(0, encRs a), (1, encRs b), (5, av), (6, .int .i64 id), (7, .int .i64 (t : Int))] ∧ L = [] ∧ B = [] ∧ Own w0.heap.size 2 H av ((acc).map encE) G ∧ EvSt a b t id acc ∧ acc.length ≤ 10 * t) ((a.length + b.length)) ⟨0, -1, .nil0, [], Nat.zero_le _, rfl, rfl, rfl, rfl, ⟨Own.nil .., evSt_start ha hb, by simp⟩⟩ (fun n env L B G hI => ?_)
  obtain ⟨t, id, av, acc, ht, rfl, rfl, rfl, rfl, hown, hst, hal⟩ := hI
  refine g_seq (fun K5 hK5 => ?_)
  refine g_seq (fun K6 hK6 => ?_)
  refine g_region ?_
  refine g_step rfl (s_val (v_move rfl) rfl rfl ?_)
  refine g_step rfl (s_val (v_move rfl) rfl rfl ?_)
  refine g_step rfl (s_val (v_len ty22 rfl (by first | rfl | assumption) (by first | exact List.length_map .. | rfl)) rfl rfl ?_)
  refine g_step rfl (s_val (v_move rfl) rfl rfl ?_)
  refine g_step rfl (s_val (v_len ty22 rfl (by first | rfl | assumption) (by first | exact List.length_map .. | rfl)) rfl rfl ?_)
  refine g_step rfl (s_val (v_add rfl rfl (by omega)) rfl rfl ?_)
  refine g_step rfl (s_val (v_lss rfl rfl) rfl rfl ?_)
  refine g_nil ?_
  refine g_next hK6 ?_
  refine g_cond rfl (fun hc18 => ?_) (fun hc18 => ?_)
  · try simp only [decide_eq_true_eq, decide_eq_false_iff_not, Bool.not_eq_true', Bool.not_eq_false', Bool.not_eq_eq_eq_not, Bool.not_true, Bool.not_false, Bool.and_eq_true, Bool.or_eq_true, Bool.or_eq_false_iff, beq_iff_eq, beq_eq_false_iff_ne, ne_eq, Int.not_lt, Int.not_le, Decidable.not_not] at hc18
    refine g_skip ?_
    refine g_next hK5 ?_
    refine g_seq (fun K7 hK7 => ?_)
    refine g_block ?_
    refine g_seq (fun K8 hK8 => ?_)
    refine g_region ?_
    refine g_step rfl (s_val (v_assign rfl) rfl rfl ?_)
    refine g_nil ?_
    refine g_next hK8 ?_
    refine g_seq (fun K9 hK9 => ?_)
    refine g_seq (fun K10 hK10 => ?_)
    refine g_region ?_
    refine g_step rfl (s_val (v_assign rfl) rfl rfl ?_)
    refine g_nil ?_
    refine g_next hK10 ?_
    refine g_block ?_
    first | refine g_keep [0, 1, 5, 6, 7, 8, 9] [] [] (keep_cons rfl (keep_cons rfl (keep_cons rfl (keep_cons rfl (keep_cons rfl (keep_cons rfl (keep_cons rfl keep_nil))))))) lkeep_nil keep_nil rfl ?_ | refine g_keep [0, 1, 5, 6, 7, 8, 9] [] [] rfl rfl rfl rfl ?_
    refine g_loop (fun n env L B G => ∃ (i : Nat) (m : Int), i ≤ a.length ∧ n = a.length - i ∧ env = [(0, encRs a), (1, encRs b), (5, av), (6, .int .i64 id), (7, .int .i64 (t : Int)), (8, .int .i64 m), (9, .int .i64 (i : Int))] ∧ L = [] ∧ B = [] ∧ Own w0.heap.size 2 H av ((acc).map encE) G ∧ m = nx (a.take i) id 5000) (a.length) ⟨0, 5000, Nat.zero_le _, rfl, rfl, rfl, rfl, ⟨hown, rfl⟩⟩ (fun n env L B G hI => ?_)
    obtain ⟨i, m, hi, rfl, rfl, rfl, rfl, hown, hm⟩ := hI
    refine g_seq (fun K11 hK11 => ?_)
    refine g_seq (fun K12 hK12 => ?_)
    refine g_region ?_
    refine g_step rfl (s_val (v_move rfl) rfl rfl ?_)
    refine g_step rfl (s_val (v_move rfl) rfl rfl ?_)
    refine g_step rfl (s_val (v_len ty22 rfl (by first | rfl | assumption) (by first | exact List.length_map .. | rfl)) rfl rfl ?_)
    refine g_step rfl (s_val (v_lss rfl rfl) rfl rfl ?_)
    refine g_nil ?_
    refine g_next hK12 ?_
    refine g_cond rfl (fun hc24 => ?_) (fun hc24 => ?_)
    · try simp only [decide_eq_true_eq, decide_eq_false_iff_not, Bool.not_eq_true', Bool.not_eq_false', Bool.not_eq_eq_eq_not, Bool.not_true, Bool.not_false, Bool.and_eq_true, Bool.or_eq_true, Bool.or_eq_false_iff, beq_iff_eq, beq_eq_false_iff_ne, ne_eq, Int.not_lt, Int.not_le, Decidable.not_not] at hc24
      obtain ⟨x, hx⟩ := get_some (l := a) (k := i) (by omega)
      refine g_skip ?_
      refine g_next hK11 ?_
      refine g_seq (fun K13 hK13 => ?_)
      refine g_block ?_
      refine g_seq (fun K14 hK14 => ?_)
      refine g_region ?_
      refine g_step rfl (s_val (v_move rfl) rfl rfl ?_)
      refine g_step rfl (s_val (v_move rfl) rfl rfl ?_)
      refine g_step rfl (s_val (v_indexAddr ty22 ty46 rfl rfl (by first | rfl | assumption) (by first | rfl | exact (rfl : (0 : Int) = ((0 : Nat) : Int)) | exact (Int.toNat_of_nonneg (by omega)).symm) (map_get hx) rfl) rfl rfl ?_)
      refine g_step rfl (s_val (by first | exact v_fieldAddr ty46 fo46_0 ty3 rfl | exact v_fieldAddr_box ty46 fo46_0 ty3 rfl) rfl rfl ?_)
      refine g_step rfl (s_val (by first | exact v_load ty3 rfl rfl (by first | rfl | assumption) (map_get hx) rfl | exact v_load_box ty3 rfl rfl (by assumption) rfl) rfl rfl ?_)
      refine g_step rfl (s_val (v_move rfl) rfl rfl ?_)
      refine g_step rfl (s_val (v_gtr rfl rfl) rfl rfl ?_)
      refine g_step rfl (s_val (v_move rfl) rfl rfl ?_)
      refine g_split 34 rfl (fun hg34 => ?_) (fun hg34 => ?_)
      · try simp only [decide_eq_true_eq, decide_eq_false_iff_not, Bool.not_eq_true', Bool.not_eq_false', Bool.not_eq_eq_eq_not, Bool.not_true, Bool.not_false, Bool.and_eq_true, Bool.or_eq_true, Bool.or_eq_false_iff, beq_iff_eq, beq_eq_false_iff_ne, ne_eq, Int.not_lt, Int.not_le, Decidable.not_not] at hg34
        refine g_step_yes (j := 7) (t := 34) rfl rfl rfl rfl (s_val (v_move rfl) rfl rfl ?_)
        refine g_step_yes (j := 7) (t := 34) rfl rfl rfl rfl (s_val (v_move rfl) rfl rfl ?_)
        refine g_step_yes (j := 7) (t := 34) rfl rfl rfl rfl (s_val (v_indexAddr ty22 ty46 rfl rfl (by first | rfl | assumption) (by first | rfl | exact (rfl : (0 : Int) = ((0 : Nat) : Int)) | exact (Int.toNat_of_nonneg (by omega)).symm) (map_get hx) rfl) rfl rfl ?_)
        refine g_step_yes (j := 7) (t := 34) rfl rfl rfl rfl (s_val (by first | exact v_fieldAddr ty46 fo46_0 ty3 rfl | exact v_fieldAddr_box ty46 fo46_0 ty3 rfl) rfl rfl ?_)
        refine g_step_yes (j := 7) (t := 34) rfl rfl rfl rfl (s_val (by first | exact v_load ty3 rfl rfl (by first | rfl | assumption) (map_get hx) rfl | exact v_load_box ty3 rfl rfl (by assumption) rfl) rfl rfl ?_)
        refine g_step_yes (j := 7) (t := 34) rfl rfl rfl rfl (s_val (v_move rfl) rfl rfl ?_)
        refine g_step_yes (j := 7) (t := 34) rfl rfl rfl rfl (s_val (v_lss rfl rfl) rfl rfl ?_)
        refine g_step rfl (s_val (v_pick_t rfl rfl) rfl rfl ?_)
        refine g_nil ?_
        refine g_next hK14 ?_
        first | refine g_keep [0, 1, 5, 6, 7, 8, 9, 42] [] [] (keep_cons rfl (keep_cons rfl (keep_cons rfl (keep_cons rfl (keep_cons rfl (keep_cons rfl (keep_cons rfl (keep_cons rfl keep_nil)))))))) lkeep_nil keep_nil rfl ?_ | refine g_keep [0, 1, 5, 6, 7, 8, 9, 42] [] [] rfl rfl rfl rfl ?_
        refine g_cond rfl (fun hc42 => ?_) (fun hc42 => ?_)
        · try simp only [decide_eq_true_eq, decide_eq_false_iff_not, Bool.not_eq_true', Bool.not_eq_false', Bool.not_eq_eq_eq_not, Bool.not_true, Bool.not_false, Bool.and_eq_true, Bool.or_eq_true, Bool.or_eq_false_iff, beq_iff_eq, beq_eq_false_iff_ne, ne_eq, Int.not_lt, Int.not_le, Decidable.not_not] at hc42
          refine g_region ?_
          refine g_step rfl (s_val (v_move rfl) rfl rfl ?_)
          refine g_step rfl (s_val (v_move rfl) rfl rfl ?_)
          refine g_step rfl (s_val (v_indexAddr ty22 ty46 rfl rfl (by first | rfl | assumption) (by first | rfl | exact (rfl : (0 : Int) = ((0 : Nat) : Int)) | exact (Int.toNat_of_nonneg (by omega)).symm) (map_get hx) rfl) rfl rfl ?_)
          refine g_step rfl (s_val (by first | exact v_fieldAddr ty46 fo46_0 ty3 rfl | exact v_fieldAddr_box ty46 fo46_0 ty3 rfl) rfl rfl ?_)
          refine g_step rfl (s_val (by first | exact v_load ty3 rfl rfl (by first | rfl | assumption) (map_get hx) rfl | exact v_load_box ty3 rfl rfl (by assumption) rfl) rfl rfl ?_)
          refine g_step rfl (s_val (v_assign rfl) rfl rfl ?_)
          refine g_nil ?_
          refine g_block_normal ?_
          refine g_next hK13 ?_
          refine g_region ?_
          refine g_step rfl (s_val (v_move rfl) rfl rfl ?_)
          refine g_step rfl (s_val (v_add rfl rfl (by omega)) rfl rfl ?_)
          refine g_step rfl (s_val (v_assign rfl) rfl rfl ?_)
          refine g_nil ?_
          first | refine g_keep [0, 1, 5, 6, 7, 8, 9] [] [] (keep_cons rfl (keep_cons rfl (keep_cons rfl (keep_cons rfl (keep_cons rfl (keep_cons rfl (keep_cons rfl keep_nil))))))) lkeep_nil keep_nil rfl ?_ | refine g_keep [0, 1, 5, 6, 7, 8, 9] [] [] rfl rfl rfl rfl ?_
          first | exact g_round _ (by omega) ⟨i + 1, x.id, by omega, rfl, rfl, rfl, rfl, ⟨hown, by rw [nx_snoc hx, ← hm, if_pos (by omega)]⟩⟩ | exact g_round _ (by omega) ⟨i + 1, m, by omega, rfl, rfl, rfl, rfl, ⟨hown, by rw [nx_snoc hx, ← hm, if_neg (by omega)]⟩⟩
        · try simp only [decide_eq_true_eq, decide_eq_false_iff_not, Bool.not_eq_true', Bool.not_eq_false', Bool.not_eq_eq_eq_not, Bool.not_true, Bool.not_false, Bool.and_eq_true, Bool.or_eq_true, Bool.or_eq_false_iff, beq_iff_eq, beq_eq_false_iff_ne, ne_eq, Int.not_lt, Int.not_le, Decidable.not_not] at hc42
          refine g_skip ?_
          refine g_block_normal ?_
          refine g_next hK13 ?_
          refine g_region ?_
          refine g_step rfl (s_val (v_move rfl) rfl rfl ?_)
          refine g_step rfl (s_val (v_add rfl rfl (by omega)) rfl rfl ?_)
          refine g_step rfl (s_val (v_assign rfl) rfl rfl ?_)
          refine g_nil ?_
          first | refine g_keep [0, 1, 5, 6, 7, 8, 9] [] [] (keep_cons rfl (keep_cons rfl (keep_cons rfl (keep_cons rfl (keep_cons rfl (keep_cons rfl (keep_cons rfl keep_nil))))))) lkeep_nil keep_nil rfl ?_ | refine g_keep [0, 1, 5, 6, 7, 8, 9] [] [] rfl rfl rfl rfl ?_
          first | exact g_round _ (by omega) ⟨i + 1, x.id, by omega, rfl, rfl, rfl, rfl, ⟨hown, by rw [nx_snoc hx, ← hm, if_pos (by omega)]⟩⟩ | exact g_round _ (by omega) ⟨i + 1, m, by omega, rfl, rfl, rfl, rfl, ⟨hown, by rw [nx_snoc hx, ← hm, if_neg (by omega)]⟩⟩
      · try simp only [decide_eq_true_eq, decide_eq_false_iff_not, Bool.not_eq_true', Bool.not_eq_false', Bool.not_eq_eq_eq_not, Bool.not_true, Bool.not_false, Bool.and_eq_true, Bool.or_eq_true, Bool.or_eq_false_iff, beq_iff_eq, beq_eq_false_iff_ne, ne_eq, Int.not_lt, Int.not_le, Decidable.not_not] at hg34
        refine g_step_no (j := 7) (t := 34) rfl rfl rfl rfl rfl rfl rfl ?_
        refine g_step_no (j := 7) (t := 34) rfl rfl rfl rfl rfl rfl rfl ?_
        refine g_step_no (j := 7) (t := 34) rfl rfl rfl rfl rfl rfl rfl ?_
        refine g_step_no (j := 7) (t := 34) rfl rfl rfl rfl rfl rfl rfl ?_
        refine g_step_no (j := 7) (t := 34) rfl rfl rfl rfl rfl rfl rfl ?_
        refine g_step_no (j := 7) (t := 34) rfl rfl rfl rfl rfl rfl rfl ?_
        refine g_step_no (j := 7) (t := 34) rfl rfl rfl rfl rfl rfl rfl ?_
        refine g_step rfl (s_val (v_pick_f rfl rfl) rfl rfl ?_)
        refine g_nil ?_
        refine g_next hK14 ?_
        first | refine g_keep [0, 1, 5, 6, 7, 8, 9, 42] [] [] (keep_cons rfl (keep_cons rfl (keep_cons rfl (keep_cons rfl (keep_cons rfl (keep_cons rfl (keep_cons rfl (keep_cons rfl keep_nil)))))))) lkeep_nil keep_nil rfl ?_ | refine g_keep [0, 1, 5, 6, 7, 8, 9, 42] [] [] rfl rfl rfl rfl ?_
        refine g_cond rfl (fun h => by cases h) (fun _ => ?_)
        refine g_skip ?_
        refine g_block_normal ?_
        refine g_next hK13 ?_
        refine g_region ?_
        refine g_step rfl (s_val (v_move rfl) rfl rfl ?_)
        refine g_step rfl (s_val (v_add rfl rfl (by omega)) rfl rfl ?_)
        refine g_step rfl (s_val (v_assign rfl) rfl rfl ?_)
        refine g_nil ?_
        first | refine g_keep [0, 1, 5, 6, 7, 8, 9] [] [] (keep_cons rfl (keep_cons rfl (keep_cons rfl (keep_cons rfl (keep_cons rfl (keep_cons rfl (keep_cons rfl keep_nil))))))) lkeep_nil keep_nil rfl ?_ | refine g_keep [0, 1, 5, 6, 7, 8, 9] [] [] rfl rfl rfl rfl ?_
        first | exact g_round _ (by omega) ⟨i + 1, x.id, by omega, rfl, rfl, rfl, rfl, ⟨hown, by rw [nx_snoc hx, ← hm, if_pos (by omega)]⟩⟩ | exact g_round _ (by omega) ⟨i + 1, m, by omega, rfl, rfl, rfl, rfl, ⟨hown, by rw [nx_snoc hx, ← hm, if_neg (by omega)]⟩⟩
    · try simp only [decide_eq_true_eq, decide_eq_false_iff_not, Bool.not_eq_true', Bool.not_eq_false', Bool.not_eq_eq_eq_not, Bool.not_true, Bool.not_false, Bool.and_eq_true, Bool.or_eq_true, Bool.or_eq_false_iff, beq_iff_eq, beq_eq_false_iff_ne, ne_eq, Int.not_lt, Int.not_le, Decidable.not_not] at hc24
      obtain rfl : i = a.length := by omega
      rw [List.take_length] at hm
      refine g_exit ?_
      refine g_then_exit ?_
      refine g_then_exit ?_
      refine g_block_same ?_
      refine g_next hK9 ?_
      refine g_seq (fun K15 hK15 => ?_)
      refine g_seq (fun K16 hK16 => ?_)
      refine g_region ?_
      refine g_step rfl (s_val (v_assign rfl) rfl rfl ?_)
      refine g_nil ?_
      refine g_next hK16 ?_
      refine g_block ?_
      first | refine g_keep [0, 1, 5, 6, 7, 8, 10] [] [] (keep_cons rfl (keep_cons rfl (keep_cons rfl (keep_cons rfl (keep_cons rfl (keep_cons rfl (keep_cons rfl keep_nil))))))) lkeep_nil keep_nil rfl ?_ | refine g_keep [0, 1, 5, 6, 7, 8, 10] [] [] rfl rfl rfl rfl ?_
      refine g_loop (fun n env L B G => ∃ (j : Nat) (m2 : Int), j ≤ b.length ∧ n = b.length - j ∧ env = [(0, encRs a), (1, encRs b), (5, av), (6, .int .i64 id), (7, .int .i64 (t : Int)), (8, .int .i64 m2), (10, .int .i64 (j : Int))] ∧ L = [] ∧ B = [] ∧ Own w0.heap.size 2 H av ((acc).map encE) G ∧ m2 = nx (b.take j) id m) (b.length) ⟨0, m, Nat.zero_le _, rfl, rfl, rfl, rfl, ⟨hown, rfl⟩⟩ (fun n env L B G hI => ?_)
      obtain ⟨j, m2, hj, rfl, rfl, rfl, rfl, hown, hm2⟩ := hI
      refine g_seq (fun K17 hK17 => ?_)
      refine g_seq (fun K18 hK18 => ?_)
      refine g_region ?_
      refine g_step rfl (s_val (v_move rfl) rfl rfl ?_)
      refine g_step rfl (s_val (v_move rfl) rfl rfl ?_)
      refine g_step rfl (s_val (v_len ty22 rfl (by first | rfl | assumption) (by first | exact List.length_map .. | rfl)) rfl rfl ?_)
      refine g_step rfl (s_val (v_lss rfl rfl) rfl rfl ?_)
      refine g_nil ?_
      refine g_next hK18 ?_
      refine g_cond rfl (fun hc51 => ?_) (fun hc51 => ?_)
      · try simp only [decide_eq_true_eq, decide_eq_false_iff_not, Bool.not_eq_true', Bool.not_eq_false', Bool.not_eq_eq_eq_not, Bool.not_true, Bool.not_false, Bool.and_eq_true, Bool.or_eq_true, Bool.or_eq_false_iff, beq_iff_eq, beq_eq_false_iff_ne, ne_eq, Int.not_lt, Int.not_le, Decidable.not_not] at hc51
        obtain ⟨y, hy⟩ := get_some (l := b) (k := j) (by omega)
        refine g_skip ?_
        refine g_next hK17 ?_
        refine g_seq (fun K19 hK19 => ?_)
        refine g_block ?_
        refine g_seq (fun K20 hK20 => ?_)
        refine g_region ?_
        refine g_step rfl (s_val (v_move rfl) rfl rfl ?_)
        refine g_step rfl (s_val (v_move rfl) rfl rfl ?_)
        refine g_step rfl (s_val (v_indexAddr ty22 ty46 rfl rfl (by first | rfl | assumption) (by first | rfl | exact (rfl : (0 : Int) = ((0 : Nat) : Int)) | exact (Int.toNat_of_nonneg (by omega)).symm) (map_get hy) rfl) rfl rfl ?_)
        refine g_step rfl (s_val (by first | exact v_fieldAddr ty46 fo46_0 ty3 rfl | exact v_fieldAddr_box ty46 fo46_0 ty3 rfl) rfl rfl ?_)
        refine g_step rfl (s_val (by first | exact v_load ty3 rfl rfl (by first | rfl | assumption) (map_get hy) rfl | exact v_load_box ty3 rfl rfl (by assumption) rfl) rfl rfl ?_)
        refine g_step rfl (s_val (v_move rfl) rfl rfl ?_)
        refine g_step rfl (s_val (v_gtr rfl rfl) rfl rfl ?_)
        refine g_step rfl (s_val (v_move rfl) rfl rfl ?_)
        refine g_split 61 rfl (fun hg61 => ?_) (fun hg61 => ?_)
        · try simp only [decide_eq_true_eq, decide_eq_false_iff_not, Bool.not_eq_true', Bool.not_eq_false', Bool.not_eq_eq_eq_not, Bool.not_true, Bool.not_false, Bool.and_eq_true, Bool.or_eq_true, Bool.or_eq_false_iff, beq_iff_eq, beq_eq_false_iff_ne, ne_eq, Int.not_lt, Int.not_le, Decidable.not_not] at hg61
          refine g_step_yes (j := 7) (t := 61) rfl rfl rfl rfl (s_val (v_move rfl) rfl rfl ?_)
          refine g_step_yes (j := 7) (t := 61) rfl rfl rfl rfl (s_val (v_move rfl) rfl rfl ?_)
          refine g_step_yes (j := 7) (t := 61) rfl rfl rfl rfl (s_val (v_indexAddr ty22 ty46 rfl rfl (by first | rfl | assumption) (by first | rfl | exact (rfl : (0 : Int) = ((0 : Nat) : Int)) | exact (Int.toNat_of_nonneg (by omega)).symm) (map_get hy) rfl) rfl rfl ?_)
          refine g_step_yes (j := 7) (t := 61) rfl rfl rfl rfl (s_val (by first | exact v_fieldAddr ty46 fo46_0 ty3 rfl | exact v_fieldAddr_box ty46 fo46_0 ty3 rfl) rfl rfl ?_)
          refine g_step_yes (j := 7) (t := 61) rfl rfl rfl rfl (s_val (by first | exact v_load ty3 rfl rfl (by first | rfl | assumption) (map_get hy) rfl | exact v_load_box ty3 rfl rfl (by assumption) rfl) rfl rfl ?_)
          refine g_step_yes (j := 7) (t := 61) rfl rfl rfl rfl (s_val (v_move rfl) rfl rfl ?_)
          refine g_step_yes (j := 7) (t := 61) rfl rfl rfl rfl (s_val (v_lss rfl rfl) rfl rfl ?_)
          refine g_step rfl (s_val (v_pick_t rfl rfl) rfl rfl ?_)
          refine g_nil ?_
          refine g_next hK20 ?_
          first | refine g_keep [0, 1, 5, 6, 7, 8, 10, 69] [] [] (keep_cons rfl (keep_cons rfl (keep_cons rfl (keep_cons rfl (keep_cons rfl (keep_cons rfl (keep_cons rfl (keep_cons rfl keep_nil)))))))) lkeep_nil keep_nil rfl ?_ | refine g_keep [0, 1, 5, 6, 7, 8, 10, 69] [] [] rfl rfl rfl rfl ?_
          refine g_cond rfl (fun hc69 => ?_) (fun hc69 => ?_)
          · try simp only [decide_eq_true_eq, decide_eq_false_iff_not, Bool.not_eq_true', Bool.not_eq_false', Bool.not_eq_eq_eq_not, Bool.not_true, Bool.not_false, Bool.and_eq_true, Bool.or_eq_true, Bool.or_eq_false_iff, beq_iff_eq, beq_eq_false_iff_ne, ne_eq, Int.not_lt, Int.not_le, Decidable.not_not] at hc69
            refine g_region ?_
            refine g_step rfl (s_val (v_move rfl) rfl rfl ?_)
            refine g_step rfl (s_val (v_move rfl) rfl rfl ?_)
            refine g_step rfl (s_val (v_indexAddr ty22 ty46 rfl rfl (by first | rfl | assumption) (by first | rfl | exact (rfl : (0 : Int) = ((0 : Nat) : Int)) | exact (Int.toNat_of_nonneg (by omega)).symm) (map_get hy) rfl) rfl rfl ?_)
            refine g_step rfl (s_val (by first | exact v_fieldAddr ty46 fo46_0 ty3 rfl | exact v_fieldAddr_box ty46 fo46_0 ty3 rfl) rfl rfl ?_)
            refine g_step rfl (s_val (by first | exact v_load ty3 rfl rfl (by first | rfl | assumption) (map_get hy) rfl | exact v_load_box ty3 rfl rfl (by assumption) rfl) rfl rfl ?_)
            refine g_step rfl (s_val (v_assign rfl) rfl rfl ?_)
            refine g_nil ?_
            refine g_block_normal ?_
            refine g_next hK19 ?_
            refine g_region ?_
            refine g_step rfl (s_val (v_move rfl) rfl rfl ?_)
            refine g_step rfl (s_val (v_add rfl rfl (by omega)) rfl rfl ?_)
            refine g_step rfl (s_val (v_assign rfl) rfl rfl ?_)
            refine g_nil ?_
            first | refine g_keep [0, 1, 5, 6, 7, 8, 10] [] [] (keep_cons rfl (keep_cons rfl (keep_cons rfl (keep_cons rfl (keep_cons rfl (keep_cons rfl (keep_cons rfl keep_nil))))))) lkeep_nil keep_nil rfl ?_ | refine g_keep [0, 1, 5, 6, 7, 8, 10] [] [] rfl rfl rfl rfl ?_
            first | exact g_round _ (by omega) ⟨j + 1, y.id, by omega, rfl, rfl, rfl, rfl, ⟨hown, by rw [nx_snoc hy, ← hm2, if_pos (by omega)]⟩⟩ | exact g_round _ (by omega) ⟨j + 1, m2, by omega, rfl, rfl, rfl, rfl, ⟨hown, by rw [nx_snoc hy, ← hm2, if_neg (by omega)]⟩⟩
          · try simp only [decide_eq_true_eq, decide_eq_false_iff_not, Bool.not_eq_true', Bool.not_eq_false', Bool.not_eq_eq_eq_not, Bool.not_true, Bool.not_false, Bool.and_eq_true, Bool.or_eq_true, Bool.or_eq_false_iff, beq_iff_eq, beq_eq_false_iff_ne, ne_eq, Int.not_lt, Int.not_le, Decidable.not_not] at hc69
            refine g_skip ?_
            refine g_block_normal ?_
            refine g_next hK19 ?_
            refine g_region ?_
            refine g_step rfl (s_val (v_move rfl) rfl rfl ?_)
            refine g_step rfl (s_val (v_add rfl rfl (by omega)) rfl rfl ?_)
            refine g_step rfl (s_val (v_assign rfl) rfl rfl ?_)
            refine g_nil ?_
            first | refine g_keep [0, 1, 5, 6, 7, 8, 10] [] [] (keep_cons rfl (keep_cons rfl (keep_cons rfl (keep_cons rfl (keep_cons rfl (keep_cons rfl (keep_cons rfl keep_nil))))))) lkeep_nil keep_nil rfl ?_ | refine g_keep [0, 1, 5, 6, 7, 8, 10] [] [] rfl rfl rfl rfl ?_
            first | exact g_round _ (by omega) ⟨j + 1, y.id, by omega, rfl, rfl, rfl, rfl, ⟨hown, by rw [nx_snoc hy, ← hm2, if_pos (by omega)]⟩⟩ | exact g_round _ (by omega) ⟨j + 1, m2, by omega, rfl, rfl, rfl, rfl, ⟨hown, by rw [nx_snoc hy, ← hm2, if_neg (by omega)]⟩⟩
        · try simp only [decide_eq_true_eq, decide_eq_false_iff_not, Bool.not_eq_true', Bool.not_eq_false', Bool.not_eq_eq_eq_not, Bool.not_true, Bool.not_false, Bool.and_eq_true, Bool.or_eq_true, Bool.or_eq_false_iff, beq_iff_eq, beq_eq_false_iff_ne, ne_eq, Int.not_lt, Int.not_le, Decidable.not_not] at hg61
          refine g_step_no (j := 7) (t := 61) rfl rfl rfl rfl rfl rfl rfl ?_
          refine g_step_no (j := 7) (t := 61) rfl rfl rfl rfl rfl rfl rfl ?_
          refine g_step_no (j := 7) (t := 61) rfl rfl rfl rfl rfl rfl rfl ?_
          refine g_step_no (j := 7) (t := 61) rfl rfl rfl rfl rfl rfl rfl ?_
          refine g_step_no (j := 7) (t := 61) rfl rfl rfl rfl rfl rfl rfl ?_
          refine g_step_no (j := 7) (t := 61) rfl rfl rfl rfl rfl rfl rfl ?_
          refine g_step_no (j := 7) (t := 61) rfl rfl rfl rfl rfl rfl rfl ?_
          refine g_step rfl (s_val (v_pick_f rfl rfl) rfl rfl ?_)
          refine g_nil ?_
          refine g_next hK20 ?_
          first | refine g_keep [0, 1, 5, 6, 7, 8, 10, 69] [] [] (keep_cons rfl (keep_cons rfl (keep_cons rfl (keep_cons rfl (keep_cons rfl (keep_cons rfl (keep_cons rfl (keep_cons rfl keep_nil)))))))) lkeep_nil keep_nil rfl ?_ | refine g_keep [0, 1, 5, 6, 7, 8, 10, 69] [] [] rfl rfl rfl rfl ?_
          refine g_cond rfl (fun h => by cases h) (fun _ => ?_)
          refine g_skip ?_
          refine g_block_normal ?_
          refine g_next hK19 ?_
          refine g_region ?_
          refine g_step rfl (s_val (v_move rfl) rfl rfl ?_)
          refine g_step rfl (s_val (v_add rfl rfl (by omega)) rfl rfl ?_)
          refine g_step rfl (s_val (v_assign rfl) rfl rfl ?_)
          refine g_nil ?_
          first | refine g_keep [0, 1, 5, 6, 7, 8, 10] [] [] (keep_cons rfl (keep_cons rfl (keep_cons rfl (keep_cons rfl (keep_cons rfl (keep_cons rfl (keep_cons rfl keep_nil))))))) lkeep_nil keep_nil rfl ?_ | refine g_keep [0, 1, 5, 6, 7, 8, 10] [] [] rfl rfl rfl rfl ?_
          first | exact g_round _ (by omega) ⟨j + 1, y.id, by omega, rfl, rfl, rfl, rfl, ⟨hown, by rw [nx_snoc hy, ← hm2, if_pos (by omega)]⟩⟩ | exact g_round _ (by omega) ⟨j + 1, m2, by omega, rfl, rfl, rfl, rfl, ⟨hown, by rw [nx_snoc hy, ← hm2, if_neg (by omega)]⟩⟩
      · try simp only [decide_eq_true_eq, decide_eq_false_iff_not, Bool.not_eq_true', Bool.not_eq_false', Bool.not_eq_eq_eq_not, Bool.not_true, Bool.not_false, Bool.and_eq_true, Bool.or_eq_true, Bool.or_eq_false_iff, beq_iff_eq, beq_eq_false_iff_ne, ne_eq, Int.not_lt, Int.not_le, Decidable.not_not] at hc51
        obtain rfl : j = b.length := by omega
        rw [List.take_length] at hm2
        have hm2n : m2 = nx2 a b id := by rw [hm2, hm]; rfl
        refine g_exit ?_
        refine g_then_exit ?_
        refine g_then_exit ?_
        refine g_block_same ?_
        refine g_next hK15 ?_
        refine g_seq (fun K21 hK21 => ?_)
        refine g_region ?_
        refine g_step rfl (s_val (v_move rfl) rfl rfl ?_)
        refine g_step rfl (s_val (v_assign rfl) rfl rfl ?_)
        refine g_nil ?_
        refine g_next hK21 ?_
        refine g_seq (fun K22 hK22 => ?_)
        refine g_region ?_
        refine g_step rfl (s_val (v_assign rfl) rfl rfl ?_)
        refine g_nil ?_
        refine g_next hK22 ?_
        refine g_block ?_
        first | refine g_keep [0, 1, 5, 6, 7, 11] [] [] (keep_cons rfl (keep_cons rfl (keep_cons rfl (keep_cons rfl (keep_cons rfl (keep_cons rfl keep_nil)))))) lkeep_nil keep_nil rfl ?_ | refine g_keep [0, 1, 5, 6, 7, 11] [] [] rfl rfl rfl rfl ?_
        refine g_loop (fun n env L B G => ∃ (q : Nat) (av2 : AV), q ≤ 10 ∧ n = 10 - q ∧ env = [(0, encRs a), (1, encRs b), (5, av2), (6, .int .i64 m2), (7, .int .i64 (t : Int)), (11, .int .i64 (q : Int))] ∧ L = [] ∧ B = [] ∧ 1 ≤ q ∧ Own w0.heap.size 2 H av2 ((acc ++ happL a b m2 q).map encE) G) (10 - 1) ⟨1, av, (by decide), rfl, rfl, rfl, rfl, ⟨Nat.le_refl _, by rw [happL_one, List.append_nil]; exact hown⟩⟩ (fun n env L B G hI => ?_)
        obtain ⟨q, av2, hq, rfl, rfl, rfl, rfl, hq1, hown2⟩ := hI
        refine g_seq (fun K23 hK23 => ?_)
        refine g_seq (fun K24 hK24 => ?_)
        refine g_region ?_
        refine g_step rfl (s_val (v_move rfl) rfl rfl ?_)
        refine g_step rfl (s_val (v_leq rfl rfl) rfl rfl ?_)
        refine g_nil ?_
        refine g_next hK24 ?_
        refine g_cond rfl (fun hc77 => ?_) (fun hc77 => ?_)
        · try simp only [decide_eq_true_eq, decide_eq_false_iff_not, Bool.not_eq_true', Bool.not_eq_false', Bool.not_eq_eq_eq_not, Bool.not_true, Bool.not_false, Bool.and_eq_true, Bool.or_eq_true, Bool.or_eq_false_iff, beq_iff_eq, beq_eq_false_iff_ne, ne_eq, Int.not_lt, Int.not_le, Decidable.not_not] at hc77
          have hhl := happL_len a b m2 q
          refine g_skip ?_
          refine g_next hK23 ?_
          refine g_seq (fun K25 hK25 => ?_)
          refine g_block ?_
          refine g_seq (fun K26 hK26 => ?_)
          refine g_region ?_
          refine g_step rfl (s_val (v_move rfl) rfl rfl ?_)
          refine g_step rfl (s_val (v_lss rfl rfl) rfl rfl ?_)
          refine g_step rfl (s_val (v_move rfl) rfl rfl ?_)
          refine g_split 82 rfl (fun hg82 => ?_) (fun hg82 => ?_)
          · try simp only [decide_eq_true_eq, decide_eq_false_iff_not, Bool.not_eq_true', Bool.not_eq_false', Bool.not_eq_eq_eq_not, Bool.not_true, Bool.not_false, Bool.and_eq_true, Bool.or_eq_true, Bool.or_eq_false_iff, beq_iff_eq, beq_eq_false_iff_ne, ne_eq, Int.not_lt, Int.not_le, Decidable.not_not] at hg82
            refine g_step_yes (j := 2) (t := 82) rfl rfl rfl rfl (s_val (v_move rfl) rfl rfl ?_)
            refine g_step_yes (j := 2) (t := 82) rfl rfl rfl rfl (s_val (v_move rfl) rfl rfl ?_)
            refine g_step_yes (j := 2) (t := 82) rfl rfl rfl rfl (s_val (v_move rfl) rfl rfl ?_)
            refine g_step_yes (j := 2) (t := 82) rfl rfl rfl rfl (s_val (v_move rfl) rfl rfl ?_)
            refine g_step_yes (j := 2) (t := 82) rfl rfl rfl rfl (s_callp rfl rfl rfl (happened_ok a b m2 q _ hla hlb hsa hsb) ?_)
            rintro _ rfl
            refine g_step rfl (s_val (v_pick_t rfl rfl) rfl rfl ?_)
            refine g_nil ?_
            refine g_next hK26 ?_
            refine g_cond rfl (fun hc88 => ?_) (fun hc88 => ?_)
            · try simp only [decide_eq_true_eq, decide_eq_false_iff_not, Bool.not_eq_true', Bool.not_eq_false', Bool.not_eq_eq_eq_not, Bool.not_true, Bool.not_false, Bool.and_eq_true, Bool.or_eq_true, Bool.or_eq_false_iff, beq_iff_eq, beq_eq_false_iff_ne, ne_eq, Int.not_lt, Int.not_le, Decidable.not_not] at hc88
              refine g_region ?_
              refine g_step rfl (s_val (v_move rfl) rfl rfl ?_)
              refine g_step rfl (s_val (v_move rfl) rfl rfl ?_)
              refine g_step rfl (s_val (v_move rfl) rfl rfl ?_)
              refine g_step rfl (s_val (v_build (vs := [(0, _), (1, _)]) (zs := [(.int .i64 0), (.int .i64 0)]) (cells := [_, _]) ty37 pl37 rfl rfl rfl) rfl rfl ?_)
              refine g_step rfl (s_lit ty25 ty37 rfl rfl rfl rfl rfl rfl rfl ?_)
              refine g_step rfl (s_append (l := ((acc ++ happL a b m2 q).map encE)) (m := ([(⟨(q : Int), m2⟩ : Ev)].map encE)) ty25 ty37 rfl rfl hown2 rfl rfl (by refine Even.map _ ?_ _; intro _; rfl) (by intro x hx; obtain ⟨_, _, rfl⟩ := List.mem_map.1 hx; rfl) rfl (by simp; omega) (by simp; omega) ?_)
              intro av94 G94 hown94
              refine g_step rfl (s_val (v_assign rfl) rfl rfl ?_)
              refine g_nil ?_
              refine g_block_normal ?_
              refine g_next hK25 ?_
              refine g_region ?_
              refine g_step rfl (s_val (v_move rfl) rfl rfl ?_)
              refine g_step rfl (s_val (v_add rfl rfl (by omega)) rfl rfl ?_)
              refine g_step rfl (s_val (v_assign rfl) rfl rfl ?_)
              refine g_nil ?_
              first | refine g_keep [0, 1, 5, 6, 7, 11] [] [] (keep_cons rfl (keep_cons rfl (keep_cons rfl (keep_cons rfl (keep_cons rfl (keep_cons rfl keep_nil)))))) lkeep_nil keep_nil rfl ?_ | refine g_keep [0, 1, 5, 6, 7, 11] [] [] rfl rfl rfl rfl ?_
              first | exact g_round _ (by omega) ⟨q + 1, _, by omega, rfl, rfl, rfl, rfl, ⟨by omega, by rw [happL_yes hq1 (by omega) hc88, ← List.append_assoc, List.map_append]; exact hown94⟩⟩ | exact g_round _ (by omega) ⟨q + 1, _, by omega, rfl, rfl, rfl, rfl, ⟨by omega, by rw [happL_no (by rintro ⟨h1, h2⟩; first | omega | (rw [h2] at hc88; cases hc88))]; exact hown2⟩⟩
            · try simp only [decide_eq_true_eq, decide_eq_false_iff_not, Bool.not_eq_true', Bool.not_eq_false', Bool.not_eq_eq_eq_not, Bool.not_true, Bool.not_false, Bool.and_eq_true, Bool.or_eq_true, Bool.or_eq_false_iff, beq_iff_eq, beq_eq_false_iff_ne, ne_eq, Int.not_lt, Int.not_le, Decidable.not_not] at hc88
              refine g_skip ?_
              refine g_block_normal ?_
              refine g_next hK25 ?_
              refine g_region ?_
              refine g_step rfl (s_val (v_move rfl) rfl rfl ?_)
              refine g_step rfl (s_val (v_add rfl rfl (by omega)) rfl rfl ?_)
              refine g_step rfl (s_val (v_assign rfl) rfl rfl ?_)
              refine g_nil ?_
              first | refine g_keep [0, 1, 5, 6, 7, 11] [] [] (keep_cons rfl (keep_cons rfl (keep_cons rfl (keep_cons rfl (keep_cons rfl (keep_cons rfl keep_nil)))))) lkeep_nil keep_nil rfl ?_ | refine g_keep [0, 1, 5, 6, 7, 11] [] [] rfl rfl rfl rfl ?_
              first | exact g_round _ (by omega) ⟨q + 1, _, by omega, rfl, rfl, rfl, rfl, ⟨by omega, by rw [happL_yes hq1 (by omega) hc88, ← List.append_assoc, List.map_append]; exact hown94⟩⟩ | exact g_round _ (by omega) ⟨q + 1, _, by omega, rfl, rfl, rfl, rfl, ⟨by omega, by rw [happL_no (by rintro ⟨h1, h2⟩; first | omega | (rw [h2] at hc88; cases hc88))]; exact hown2⟩⟩
          · try simp only [decide_eq_true_eq, decide_eq_false_iff_not, Bool.not_eq_true', Bool.not_eq_false', Bool.not_eq_eq_eq_not, Bool.not_true, Bool.not_false, Bool.and_eq_true, Bool.or_eq_true, Bool.or_eq_false_iff, beq_iff_eq, beq_eq_false_iff_ne, ne_eq, Int.not_lt, Int.not_le, Decidable.not_not] at hg82
            refine g_step_no (j := 2) (t := 82) rfl rfl rfl rfl rfl rfl rfl ?_
            refine g_step_no (j := 2) (t := 82) rfl rfl rfl rfl rfl rfl rfl ?_
            refine g_step_no (j := 2) (t := 82) rfl rfl rfl rfl rfl rfl rfl ?_
            refine g_step_no (j := 2) (t := 82) rfl rfl rfl rfl rfl rfl rfl ?_
            refine g_step_no (j := 2) (t := 82) rfl rfl rfl rfl rfl rfl rfl ?_
            refine g_step rfl (s_val (v_pick_f rfl rfl) rfl rfl ?_)
            refine g_nil ?_
            refine g_next hK26 ?_
            refine g_cond rfl (fun h => by cases h) (fun _ => ?_)
            refine g_skip ?_
            refine g_block_normal ?_
            refine g_next hK25 ?_
            refine g_region ?_
            refine g_step rfl (s_val (v_move rfl) rfl rfl ?_)
            refine g_step rfl (s_val (v_add rfl rfl (by omega)) rfl rfl ?_)
            refine g_step rfl (s_val (v_assign rfl) rfl rfl ?_)
            refine g_nil ?_
            first | refine g_keep [0, 1, 5, 6, 7, 11] [] [] (keep_cons rfl (keep_cons rfl (keep_cons rfl (keep_cons rfl (keep_cons rfl (keep_cons rfl keep_nil)))))) lkeep_nil keep_nil rfl ?_ | refine g_keep [0, 1, 5, 6, 7, 11] [] [] rfl rfl rfl rfl ?_
            first | exact g_round _ (by omega) ⟨q + 1, _, by omega, rfl, rfl, rfl, rfl, ⟨by omega, by rw [happL_yes hq1 (by omega) hc88, ← List.append_assoc, List.map_append]; exact hown94⟩⟩ | exact g_round _ (by omega) ⟨q + 1, _, by omega, rfl, rfl, rfl, rfl, ⟨by omega, by rw [happL_no (by rintro ⟨h1, h2⟩; first | omega | (rw [h2] at hc88; cases hc88))]; exact hown2⟩⟩
        · try simp only [decide_eq_true_eq, decide_eq_false_iff_not, Bool.not_eq_true', Bool.not_eq_false', Bool.not_eq_eq_eq_not, Bool.not_true, Bool.not_false, Bool.and_eq_true, Bool.or_eq_true, Bool.or_eq_false_iff, beq_iff_eq, beq_eq_false_iff_ne, ne_eq, Int.not_lt, Int.not_le, Decidable.not_not] at hc77
          obtain rfl : q = 10 := by omega
          have hhl := happL_len a b m2 10
          rw [hm2n] at hown2 hhl
          refine g_exit ?_
          refine g_then_exit ?_
          refine g_then_exit ?_
          refine g_block_same ?_
          refine g_block_normal ?_
          refine g_next hK7 ?_
          refine g_region ?_
          refine g_step rfl (s_val (v_move rfl) rfl rfl ?_)
          refine g_step rfl (s_val (v_add rfl rfl (by omega)) rfl rfl ?_)
          refine g_step rfl (s_val (v_assign rfl) rfl rfl ?_)
          refine g_nil ?_
          first | refine g_keep [0, 1, 5, 6, 7] [] [] (keep_cons rfl (keep_cons rfl (keep_cons rfl (keep_cons rfl (keep_cons rfl keep_nil))))) lkeep_nil keep_nil rfl ?_ | refine g_keep [0, 1, 5, 6, 7] [] [] rfl rfl rfl rfl ?_
          exact g_round _ (by omega) ⟨t + 1, m2, av2, _, by omega, rfl, rfl, rfl, rfl, ⟨hown2, by rw [hm2n]; exact evSt_next ha hb hst, by rw [List.length_append]; omega⟩⟩
  · try simp only [decide_eq_true_eq, decide_eq_false_iff_not, Bool.not_eq_true', Bool.not_eq_false', Bool.not_eq_eq_eq_not, Bool.not_true, Bool.not_false, Bool.and_eq_true, Bool.or_eq_true, Bool.or_eq_false_iff, beq_iff_eq, beq_eq_false_iff_ne, ne_eq, Int.not_lt, Int.not_le, Decidable.not_not] at hc18
    obtain rfl : t = a.length + b.length := by omega
    have hfin := evSt_end hst
    refine g_exit ?_
    refine g_then_exit ?_
    refine g_then_exit ?_
    refine g_block_same ?_
    refine g_next hK3 ?_
    refine g_seq (fun K27 hK27 => ?_)
    refine g_region ?_
    obtain ⟨e, he1, he2, he3⟩ := hown.effs
    rw [hfin] at he1
    refine g_step rfl (s_val (v_move rfl) rfl rfl ?_)
    refine g_step rfl (s_val (v_assign rfl) rfl rfl ?_)
    refine g_nil ?_
    refine g_next hK27 ?_
    refine g_ret ?_
    refine g_end1 (.inl rfl) Try.results16 (.tmp rfl) e (ASub.refl _) (by rw [he3]; exact AHeap.sub_refl _) (fun q hq => .inr (he2 q hq)) he1

theorem between44_ok (a b : List Rc) (G : AHeap) (hla : a.length ≤ 1000000) (hlb : b.length ≤ 1000000) (hsa : ∀ x ∈ a, Small x.bag) (hsb : ∀ x ∈ b, Small x.bag) (ha : srt a = true) (hb : srt b = true) : PCalls Try.prog 16 [encRs a, encRs b] G (fun v => v = encEs (evL a b)) := LCalls.freeze (between44O a b G hla hlb hsa hsb ha hb)
theorem awake44_ok (G : AHeap) : PCalls Try.prog 12 [] G (fun v => v = .bool true) := by
  refine LCalls.intro 75 fi12 rfl Try.ntmps12 rfl (fun _ h => h.elim) (fun H hH w0 hw0 => ?_)
  refine g_seq (fun K0 hK0 => ?_)
  refine g_region ?_
  refine g_step rfl (s_val (v_assign rfl) rfl rfl ?_)
  refine g_nil ?_
  refine g_next hK0 ?_
  refine g_seq (fun K1 hK1 => ?_)
  refine g_region ?_
  refine g_step rfl (s_val (v_sub (b := (encSp ⟨1, 1⟩)) (v_build (vs := [(0, _), (1, _)]) (zs := [(.int .i64 0), (.int .i64 0)]) (cells := [_, _]) ty43 pl43 rfl rfl rfl) (ASub.of_wk rfl)) rfl rfl ?_)
  refine g_step rfl (s_alloc (av := (.agg [(.int .i64 0), (.int .i64 0)])) ty43 rfl rfl rfl rfl ?_)
  refine g_step rfl (s_store_all ty43 rfl rfl rfl rfl rfl rfl ?_)
  refine g_nil ?_
  refine g_next hK1 ?_
  refine g_seq (fun K2 hK2 => ?_)
  refine g_region ?_
  refine g_step rfl (s_val (by first | exact v_loadl_all ty43 rfl rfl rfl rfl rfl | exact v_loadl_part (cs := [_, _]) ty43 rfl rfl rfl rfl rfl rfl) rfl rfl ?_)
  refine g_step rfl (s_val (v_sub (b := (encR ⟨4, 3, 2, ⟨1, 1⟩, false, []⟩)) (v_build (vs := [(0, _), (1, _), (2, _), (3, _)]) (zs := [(.int .i64 0), (.int .i64 0), (.int .i64 0), (.int .i64 0), (.int .i64 0), (.bool false), .nil0]) (cells := [_, _, _, _, _, _, _]) ty46 pl46 rfl rfl rfl) (ASub.of_wk rfl)) rfl rfl ?_)
  refine g_step rfl (s_lit ty22 ty46 rfl rfl rfl rfl rfl rfl rfl ?_)
  refine g_step rfl (s_val (by first | exact v_loadl_all ty43 rfl rfl rfl rfl rfl | exact v_loadl_part (cs := [_, _]) ty43 rfl rfl rfl rfl rfl rfl) rfl rfl ?_)
  refine g_step rfl (s_val (v_sub (b := (encR ⟨4, 4, 0, ⟨1, 1⟩, false, []⟩)) (v_build (vs := [(0, _), (1, _), (3, _)]) (zs := [(.int .i64 0), (.int .i64 0), (.int .i64 0), (.int .i64 0), (.int .i64 0), (.bool false), .nil0]) (cells := [_, _, _, _, _, _, _]) ty46 pl46 rfl rfl rfl) (ASub.of_wk rfl)) rfl rfl ?_)
  refine g_step rfl (s_lit ty22 ty46 rfl rfl rfl rfl rfl rfl rfl ?_)
  refine g_step rfl (s_callp rfl rfl rfl (between_ok [⟨4, 3, 2, ⟨1, 1⟩, false, []⟩] [⟨4, 4, 0, ⟨1, 1⟩, false, []⟩] _ (by simp) (by simp) (by simp [Small, bsize]) (by simp [Small, bsize])) ?_)
  rintro _ rfl
  rw [show evB [⟨4, 3, 2, ⟨1, 1⟩, false, []⟩] [⟨4, 4, 0, ⟨1, 1⟩, false, []⟩] = [⟨5, 4⟩, ⟨8, 4⟩] from by decide, show (srt ([⟨4, 3, 2, ⟨1, 1⟩, false, []⟩] : List Rc) && srt ([⟨4, 4, 0, ⟨1, 1⟩, false, []⟩] : List Rc)) = true from by decide]
  refine g_step rfl (s_val (v_move rfl) rfl rfl ?_)
  refine g_step rfl (s_val (v_extract rfl rfl) rfl rfl ?_)
  refine g_step rfl (s_val (v_extract rfl rfl) rfl rfl ?_)
  refine g_step rfl (s_val (v_assign rfl) rfl rfl ?_)
  refine g_step rfl (s_val (v_assign rfl) rfl rfl ?_)
  refine g_nil ?_
  refine g_next hK2 ?_
  refine g_seq (fun K3 hK3 => ?_)
  refine g_region ?_
  refine g_step rfl (s_val (by first | exact v_loadl_all ty43 rfl rfl rfl rfl rfl | exact v_loadl_part (cs := [_, _]) ty43 rfl rfl rfl rfl rfl rfl) rfl rfl ?_)
  refine g_step rfl (s_val (v_sub (b := (encR ⟨2, 0, 0, ⟨1, 1⟩, false, []⟩)) (v_build (vs := [(0, _), (3, _)]) (zs := [(.int .i64 0), (.int .i64 0), (.int .i64 0), (.int .i64 0), (.int .i64 0), (.bool false), .nil0]) (cells := [_, _, _, _, _, _, _]) ty46 pl46 rfl rfl rfl) (ASub.of_wk rfl)) rfl rfl ?_)
  refine g_step rfl (s_val (by first | exact v_loadl_all ty43 rfl rfl rfl rfl rfl | exact v_loadl_part (cs := [_, _]) ty43 rfl rfl rfl rfl rfl rfl) rfl rfl ?_)
  refine g_step rfl (s_val (v_sub (b := (encR ⟨5, 0, 0, ⟨1, 1⟩, false, []⟩)) (v_build (vs := [(0, _), (3, _)]) (zs := [(.int .i64 0), (.int .i64 0), (.int .i64 0), (.int .i64 0), (.int .i64 0), (.bool false), .nil0]) (cells := [_, _, _, _, _, _, _]) ty46 pl46 rfl rfl rfl) (ASub.of_wk rfl)) rfl rfl ?_)
  refine g_step rfl (s_lit ty22 ty46 rfl rfl rfl rfl rfl rfl rfl ?_)
  refine g_step rfl (s_callp rfl rfl rfl (PCalls.args (between_ok [] [⟨2, 0, 0, ⟨1, 1⟩, false, []⟩, ⟨5, 0, 0, ⟨1, 1⟩, false, []⟩] _ (by simp) (by simp) (by simp [Small, bsize]) (by simp [Small, bsize])) ⟨ASub.nil0, ASub.refl _, trivial⟩) ?_)
  rintro _ rfl
  rw [show evB [] [⟨2, 0, 0, ⟨1, 1⟩, false, []⟩, ⟨5, 0, 0, ⟨1, 1⟩, false, []⟩] = [⟨1, 2⟩, ⟨1, 5⟩] from by decide, show (srt ([] : List Rc) && srt ([⟨2, 0, 0, ⟨1, 1⟩, false, []⟩, ⟨5, 0, 0, ⟨1, 1⟩, false, []⟩] : List Rc)) = true from by decide]
  refine g_step rfl (s_val (v_move rfl) rfl rfl ?_)
  refine g_step rfl (s_val (v_extract rfl rfl) rfl rfl ?_)
  refine g_step rfl (s_val (v_extract rfl rfl) rfl rfl ?_)
  refine g_step rfl (s_val (v_assign rfl) rfl rfl ?_)
  refine g_step rfl (s_val (v_assign rfl) rfl rfl ?_)
  refine g_nil ?_
  refine g_next hK3 ?_
  first | refine g_keep [2, 3, 4, 5] [] [] (keep_cons rfl (keep_cons rfl (keep_cons rfl (keep_cons rfl keep_nil)))) lkeep_nil keep_nil rfl ?_ | refine g_keep [2, 3, 4, 5] [] [] rfl rfl rfl rfl ?_
  refine g_seq (fun K4 hK4 => ?_)
  refine g_region ?_
  refine g_step rfl (s_val (v_move rfl) rfl rfl ?_)
  refine g_step rfl (s_val (v_move rfl) rfl rfl ?_)
  refine g_split 27 rfl (fun hg27 => ?_) (fun hg27 => ?_)
  · try simp only [decide_eq_true_eq, decide_eq_false_iff_not, Bool.not_eq_true', Bool.not_eq_false', Bool.not_eq_eq_eq_not, Bool.not_true, Bool.not_false, Bool.and_eq_true, Bool.or_eq_true, Bool.or_eq_false_iff, beq_iff_eq, beq_eq_false_iff_ne, ne_eq, Int.not_lt, Int.not_le, Decidable.not_not] at hg27
    refine g_step_yes (j := 1) (t := 27) rfl rfl rfl rfl (s_val (v_move rfl) rfl rfl ?_)
    refine g_step_yes (j := 1) (t := 27) rfl rfl rfl rfl (s_val (v_len ty25 rfl (by first | rfl | assumption) (by first | exact List.length_map .. | rfl)) rfl rfl ?_)
    refine g_step_yes (j := 1) (t := 27) rfl rfl rfl rfl (s_val (v_eql rfl rfl) rfl rfl ?_)
    refine g_step rfl (s_val (v_pick_t rfl rfl) rfl rfl ?_)
    refine g_step rfl (s_val (v_move rfl) rfl rfl ?_)
    refine g_split 32 rfl (fun hg32 => ?_) (fun hg32 => ?_)
    · try simp only [decide_eq_true_eq, decide_eq_false_iff_not, Bool.not_eq_true', Bool.not_eq_false', Bool.not_eq_eq_eq_not, Bool.not_true, Bool.not_false, Bool.and_eq_true, Bool.or_eq_true, Bool.or_eq_false_iff, beq_iff_eq, beq_eq_false_iff_ne, ne_eq, Int.not_lt, Int.not_le, Decidable.not_not] at hg32
      refine g_step_yes (j := 6) (t := 32) rfl rfl rfl rfl (s_val (v_move rfl) rfl rfl ?_)
      refine g_step_yes (j := 6) (t := 32) rfl rfl rfl rfl (s_val (v_indexAddr ty25 ty37 rfl rfl (by first | rfl | assumption) (by first | rfl | exact (rfl : (0 : Int) = ((0 : Nat) : Int)) | exact (Int.toNat_of_nonneg (by omega)).symm) (by first | assumption | exact map_get (by assumption) | rfl) rfl) rfl rfl ?_)
      refine g_step_yes (j := 6) (t := 32) rfl rfl rfl rfl (s_val (by first | exact v_fieldAddr ty37 fo37_0 ty35 rfl | exact v_fieldAddr_box ty37 fo37_0 ty35 rfl) rfl rfl ?_)
      refine g_step_yes (j := 6) (t := 32) rfl rfl rfl rfl (s_val (by first | exact v_load ty35 rfl rfl (by first | rfl | assumption) (by first | assumption | exact map_get (by assumption) | rfl) rfl | exact v_load_box ty35 rfl rfl (by assumption) rfl) rfl rfl ?_)
      refine g_step_yes (j := 6) (t := 32) rfl rfl rfl rfl (s_val (v_eql rfl rfl) rfl rfl ?_)
      refine g_step rfl (s_val (v_pick_t rfl rfl) rfl rfl ?_)
      refine g_step rfl (s_val (v_move rfl) rfl rfl ?_)
      refine g_split 39 rfl (fun hg39 => ?_) (fun hg39 => ?_)
      · try simp only [decide_eq_true_eq, decide_eq_false_iff_not, Bool.not_eq_true', Bool.not_eq_false', Bool.not_eq_eq_eq_not, Bool.not_true, Bool.not_false, Bool.and_eq_true, Bool.or_eq_true, Bool.or_eq_false_iff, beq_iff_eq, beq_eq_false_iff_ne, ne_eq, Int.not_lt, Int.not_le, Decidable.not_not] at hg39
        refine g_step_yes (j := 13) (t := 39) rfl rfl rfl rfl (s_val (v_move rfl) rfl rfl ?_)
        refine g_step_yes (j := 13) (t := 39) rfl rfl rfl rfl (s_val (v_indexAddr ty25 ty37 rfl rfl (by first | rfl | assumption) (by first | rfl | exact (rfl : (0 : Int) = ((0 : Nat) : Int)) | exact (Int.toNat_of_nonneg (by omega)).symm) (by first | assumption | exact map_get (by assumption) | rfl) rfl) rfl rfl ?_)
        refine g_step_yes (j := 13) (t := 39) rfl rfl rfl rfl (s_val (by first | exact v_fieldAddr ty37 fo37_0 ty35 rfl | exact v_fieldAddr_box ty37 fo37_0 ty35 rfl) rfl rfl ?_)
        refine g_step_yes (j := 13) (t := 39) rfl rfl rfl rfl (s_val (by first | exact v_load ty35 rfl rfl (by first | rfl | assumption) (by first | assumption | exact map_get (by assumption) | rfl) rfl | exact v_load_box ty35 rfl rfl (by assumption) rfl) rfl rfl ?_)
        refine g_step_yes (j := 13) (t := 39) rfl rfl rfl rfl (s_val (v_eql rfl rfl) rfl rfl ?_)
        refine g_step rfl (s_val (v_pick_t rfl rfl) rfl rfl ?_)
        refine g_step rfl (s_val (v_move rfl) rfl rfl ?_)
        refine g_split 46 rfl (fun hg46 => ?_) (fun hg46 => ?_)
        · try simp only [decide_eq_true_eq, decide_eq_false_iff_not, Bool.not_eq_true', Bool.not_eq_false', Bool.not_eq_eq_eq_not, Bool.not_true, Bool.not_false, Bool.and_eq_true, Bool.or_eq_true, Bool.or_eq_false_iff, beq_iff_eq, beq_eq_false_iff_ne, ne_eq, Int.not_lt, Int.not_le, Decidable.not_not] at hg46
          refine g_step_yes (j := 20) (t := 46) rfl rfl rfl rfl (s_val (v_move rfl) rfl rfl ?_)
          refine g_step_yes (j := 20) (t := 46) rfl rfl rfl rfl (s_val (v_indexAddr ty25 ty37 rfl rfl (by first | rfl | assumption) (by first | rfl | exact (rfl : (0 : Int) = ((0 : Nat) : Int)) | exact (Int.toNat_of_nonneg (by omega)).symm) (by first | assumption | exact map_get (by assumption) | rfl) rfl) rfl rfl ?_)
          refine g_step_yes (j := 20) (t := 46) rfl rfl rfl rfl (s_val (by first | exact v_fieldAddr ty37 fo37_1 ty3 rfl | exact v_fieldAddr_box ty37 fo37_1 ty3 rfl) rfl rfl ?_)
          refine g_step_yes (j := 20) (t := 46) rfl rfl rfl rfl (s_val (by first | exact v_load ty3 rfl rfl (by first | rfl | assumption) (by first | assumption | exact map_get (by assumption) | rfl) rfl | exact v_load_box ty3 rfl rfl (by assumption) rfl) rfl rfl ?_)
          refine g_step_yes (j := 20) (t := 46) rfl rfl rfl rfl (s_val (v_eql rfl rfl) rfl rfl ?_)
          refine g_step rfl (s_val (v_pick_t rfl rfl) rfl rfl ?_)
          refine g_step rfl (s_val (v_move rfl) rfl rfl ?_)
          refine g_split 53 rfl (fun hg53 => ?_) (fun hg53 => ?_)
          · try simp only [decide_eq_true_eq, decide_eq_false_iff_not, Bool.not_eq_true', Bool.not_eq_false', Bool.not_eq_eq_eq_not, Bool.not_true, Bool.not_false, Bool.and_eq_true, Bool.or_eq_true, Bool.or_eq_false_iff, beq_iff_eq, beq_eq_false_iff_ne, ne_eq, Int.not_lt, Int.not_le, Decidable.not_not] at hg53
            refine g_step_yes (j := 27) (t := 53) rfl rfl rfl rfl (s_val (v_move rfl) rfl rfl ?_)
            refine g_step rfl (s_val (v_pick_t rfl rfl) rfl rfl ?_)
            refine g_step rfl (s_val (v_move rfl) rfl rfl ?_)
            refine g_split 56 rfl (fun hg56 => ?_) (fun hg56 => ?_)
            · try simp only [decide_eq_true_eq, decide_eq_false_iff_not, Bool.not_eq_true', Bool.not_eq_false', Bool.not_eq_eq_eq_not, Bool.not_true, Bool.not_false, Bool.and_eq_true, Bool.or_eq_true, Bool.or_eq_false_iff, beq_iff_eq, beq_eq_false_iff_ne, ne_eq, Int.not_lt, Int.not_le, Decidable.not_not] at hg56
              refine g_step_yes (j := 30) (t := 56) rfl rfl rfl rfl (s_val (v_move rfl) rfl rfl ?_)
              refine g_step_yes (j := 30) (t := 56) rfl rfl rfl rfl (s_val (v_len ty25 rfl (by first | rfl | assumption) (by first | exact List.length_map .. | rfl)) rfl rfl ?_)
              refine g_step_yes (j := 30) (t := 56) rfl rfl rfl rfl (s_val (v_eql rfl rfl) rfl rfl ?_)
              refine g_step rfl (s_val (v_pick_t rfl rfl) rfl rfl ?_)
              refine g_step rfl (s_val (v_move rfl) rfl rfl ?_)
              refine g_split 61 rfl (fun hg61 => ?_) (fun hg61 => ?_)
              · try simp only [decide_eq_true_eq, decide_eq_false_iff_not, Bool.not_eq_true', Bool.not_eq_false', Bool.not_eq_eq_eq_not, Bool.not_true, Bool.not_false, Bool.and_eq_true, Bool.or_eq_true, Bool.or_eq_false_iff, beq_iff_eq, beq_eq_false_iff_ne, ne_eq, Int.not_lt, Int.not_le, Decidable.not_not] at hg61
                refine g_step_yes (j := 35) (t := 61) rfl rfl rfl rfl (s_val (v_move rfl) rfl rfl ?_)
                refine g_step_yes (j := 35) (t := 61) rfl rfl rfl rfl (s_val (v_indexAddr ty25 ty37 rfl rfl (by first | rfl | assumption) (by first | rfl | exact (rfl : (0 : Int) = ((0 : Nat) : Int)) | exact (Int.toNat_of_nonneg (by omega)).symm) (by first | assumption | exact map_get (by assumption) | rfl) rfl) rfl rfl ?_)
                refine g_step_yes (j := 35) (t := 61) rfl rfl rfl rfl (s_val (by first | exact v_fieldAddr ty37 fo37_0 ty35 rfl | exact v_fieldAddr_box ty37 fo37_0 ty35 rfl) rfl rfl ?_)
                refine g_step_yes (j := 35) (t := 61) rfl rfl rfl rfl (s_val (by first | exact v_load ty35 rfl rfl (by first | rfl | assumption) (by first | assumption | exact map_get (by assumption) | rfl) rfl | exact v_load_box ty35 rfl rfl (by assumption) rfl) rfl rfl ?_)
                refine g_step_yes (j := 35) (t := 61) rfl rfl rfl rfl (s_val (v_eql rfl rfl) rfl rfl ?_)
                refine g_step rfl (s_val (v_pick_t rfl rfl) rfl rfl ?_)
                refine g_step rfl (s_val (v_move rfl) rfl rfl ?_)
                refine g_split 68 rfl (fun hg68 => ?_) (fun hg68 => ?_)
                · try simp only [decide_eq_true_eq, decide_eq_false_iff_not, Bool.not_eq_true', Bool.not_eq_false', Bool.not_eq_eq_eq_not, Bool.not_true, Bool.not_false, Bool.and_eq_true, Bool.or_eq_true, Bool.or_eq_false_iff, beq_iff_eq, beq_eq_false_iff_ne, ne_eq, Int.not_lt, Int.not_le, Decidable.not_not] at hg68
                  refine g_step_yes (j := 42) (t := 68) rfl rfl rfl rfl (s_val (v_move rfl) rfl rfl ?_)
                  refine g_step_yes (j := 42) (t := 68) rfl rfl rfl rfl (s_val (v_indexAddr ty25 ty37 rfl rfl (by first | rfl | assumption) (by first | rfl | exact (rfl : (0 : Int) = ((0 : Nat) : Int)) | exact (Int.toNat_of_nonneg (by omega)).symm) (by first | assumption | exact map_get (by assumption) | rfl) rfl) rfl rfl ?_)
                  refine g_step_yes (j := 42) (t := 68) rfl rfl rfl rfl (s_val (by first | exact v_fieldAddr ty37 fo37_1 ty3 rfl | exact v_fieldAddr_box ty37 fo37_1 ty3 rfl) rfl rfl ?_)
                  refine g_step_yes (j := 42) (t := 68) rfl rfl rfl rfl (s_val (by first | exact v_load ty3 rfl rfl (by first | rfl | assumption) (by first | assumption | exact map_get (by assumption) | rfl) rfl | exact v_load_box ty3 rfl rfl (by assumption) rfl) rfl rfl ?_)
                  refine g_step_yes (j := 42) (t := 68) rfl rfl rfl rfl (s_val (v_eql rfl rfl) rfl rfl ?_)
                  refine g_step rfl (s_val (v_pick_t rfl rfl) rfl rfl ?_)
                  refine g_step rfl (s_val (v_assign rfl) rfl rfl ?_)
                  refine g_nil ?_
                  refine g_next hK4 ?_
                  first | refine g_keep [0] [] [] (keep_cons rfl keep_nil) lkeep_nil keep_nil rfl ?_ | refine g_keep [0] [] [] rfl rfl rfl rfl ?_
                  refine g_ret ?_
                  refine g_end1 (.inl rfl) Try.results12 (.tmp rfl) [] (ASub.refl _) (AHeap.sub_refl _) (fun p hp => by cases hp) ⟨rfl, ?_⟩
                  rfl
                · exfalso; (try simp only [decide_eq_true_eq, decide_eq_false_iff_not, Bool.not_eq_true', Bool.not_eq_false', Bool.not_eq_eq_eq_not, Bool.not_true, Bool.not_false, Bool.and_eq_true, Bool.or_eq_true, Bool.or_eq_false_iff, beq_iff_eq, beq_eq_false_iff_ne, ne_eq, Int.not_lt, Int.not_le, Decidable.not_not] at hg68); revert hg68; decide
              · exfalso; (try simp only [decide_eq_true_eq, decide_eq_false_iff_not, Bool.not_eq_true', Bool.not_eq_false', Bool.not_eq_eq_eq_not, Bool.not_true, Bool.not_false, Bool.and_eq_true, Bool.or_eq_true, Bool.or_eq_false_iff, beq_iff_eq, beq_eq_false_iff_ne, ne_eq, Int.not_lt, Int.not_le, Decidable.not_not] at hg61); revert hg61; decide
            · exfalso; (try simp only [decide_eq_true_eq, decide_eq_false_iff_not, Bool.not_eq_true', Bool.not_eq_false', Bool.not_eq_eq_eq_not, Bool.not_true, Bool.not_false, Bool.and_eq_true, Bool.or_eq_true, Bool.or_eq_false_iff, beq_iff_eq, beq_eq_false_iff_ne, ne_eq, Int.not_lt, Int.not_le, Decidable.not_not] at hg56); revert hg56; decide
          · exfalso; (try simp only [decide_eq_true_eq, decide_eq_false_iff_not, Bool.not_eq_true', Bool.not_eq_false', Bool.not_eq_eq_eq_not, Bool.not_true, Bool.not_false, Bool.and_eq_true, Bool.or_eq_true, Bool.or_eq_false_iff, beq_iff_eq, beq_eq_false_iff_ne, ne_eq, Int.not_lt, Int.not_le, Decidable.not_not] at hg53); revert hg53; decide
        · exfalso; (try simp only [decide_eq_true_eq, decide_eq_false_iff_not, Bool.not_eq_true', Bool.not_eq_false', Bool.not_eq_eq_eq_not, Bool.not_true, Bool.not_false, Bool.and_eq_true, Bool.or_eq_true, Bool.or_eq_false_iff, beq_iff_eq, beq_eq_false_iff_ne, ne_eq, Int.not_lt, Int.not_le, Decidable.not_not] at hg46); revert hg46; decide
      · exfalso; (try simp only [decide_eq_true_eq, decide_eq_false_iff_not, Bool.not_eq_true', Bool.not_eq_false', Bool.not_eq_eq_eq_not, Bool.not_true, Bool.not_false, Bool.and_eq_true, Bool.or_eq_true, Bool.or_eq_false_iff, beq_iff_eq, beq_eq_false_iff_ne, ne_eq, Int.not_lt, Int.not_le, Decidable.not_not] at hg39); revert hg39; decide
    · exfalso; (try simp only [decide_eq_true_eq, decide_eq_false_iff_not, Bool.not_eq_true', Bool.not_eq_false', Bool.not_eq_eq_eq_not, Bool.not_true, Bool.not_false, Bool.and_eq_true, Bool.or_eq_true, Bool.or_eq_false_iff, beq_iff_eq, beq_eq_false_iff_ne, ne_eq, Int.not_lt, Int.not_le, Decidable.not_not] at hg32); revert hg32; decide
  · exfalso; (try simp only [decide_eq_true_eq, decide_eq_false_iff_not, Bool.not_eq_true', Bool.not_eq_false', Bool.not_eq_eq_eq_not, Bool.not_true, Bool.not_false, Bool.and_eq_true, Bool.or_eq_true, Bool.or_eq_false_iff, beq_iff_eq, beq_eq_false_iff_ne, ne_eq, Int.not_lt, Int.not_le, Decidable.not_not] at hg27); revert hg27; decide

theorem eventBetween_ok (a b : List Rc) (hha : ∀ r ∈ a, Held r.bag) (hhb : ∀ r ∈ b, Held r.bag) (hla : a.length ≤ 140737488351232) (hlb : b.length ≤ 140737488351232) (G : AHeap) : PCalls Try.prog 3 [encRs a, encRs b] G (fun v => v = .bool true) := by
  refine LCalls.intro 60 fi3 rfl Try.ntmps3 rfl (fun _ h => h.elim) (fun H hH w0 hw0 => ?_)
  refine g_seq (fun K0 hK0 => ?_)
  refine g_region ?_
  refine g_step rfl (s_val (v_assign rfl) rfl rfl ?_)
  refine g_nil ?_
  refine g_next hK0 ?_
  refine g_seq (fun K1 hK1 => ?_)
  refine g_seq (fun K2 hK2 => ?_)
  refine g_region ?_
  refine g_step rfl (s_val (v_move rfl) rfl rfl ?_)
  refine g_step rfl (s_callp rfl rfl rfl (fewL_ok a _ _ rfl hha hla) ?_)
  rintro _ rfl
  refine g_step rfl (s_val (v_not rfl) rfl rfl ?_)
  refine g_step rfl (s_val (v_move rfl) rfl rfl ?_)
  refine g_split 10 rfl (fun hg10 => ?_) (fun hg10 => ?_)
  · try simp only [decide_eq_true_eq, decide_eq_false_iff_not, Bool.not_eq_true', Bool.not_eq_false', Bool.not_eq_eq_eq_not, Bool.not_true, Bool.not_false, Bool.and_eq_true, Bool.or_eq_true, Bool.or_eq_false_iff, beq_iff_eq, beq_eq_false_iff_ne, ne_eq, Int.not_lt, Int.not_le, Decidable.not_not] at hg10
    refine g_step_no (j := 3) (t := 10) rfl rfl rfl rfl rfl rfl rfl ?_
    refine g_step_no (j := 3) (t := 10) rfl rfl rfl rfl rfl rfl rfl ?_
    refine g_step_no (j := 3) (t := 10) rfl rfl rfl rfl rfl rfl rfl ?_
    refine g_step rfl (s_val (v_pick_t rfl rfl) rfl rfl ?_)
    refine g_nil ?_
    refine g_next hK2 ?_
    refine g_cond rfl (fun _ => ?_) (fun h => by cases h)
    refine g_seq (fun K3 hK3 => ?_)
    refine g_region ?_
    refine g_step rfl (s_callp rfl rfl rfl (awake44_ok _) ?_)
    rintro _ rfl
    refine g_step rfl (s_val (v_assign rfl) rfl rfl ?_)
    refine g_nil ?_
    refine g_next hK3 ?_
    refine g_ret ?_
    refine g_then_ret ?_
    refine g_end1 (.inl rfl) Try.results3 (.tmp rfl) [] (ASub.refl _) (AHeap.sub_refl _) (fun p hp => by cases hp) ⟨rfl, ?_⟩
    rfl
  · try simp only [decide_eq_true_eq, decide_eq_false_iff_not, Bool.not_eq_true', Bool.not_eq_false', Bool.not_eq_eq_eq_not, Bool.not_true, Bool.not_false, Bool.and_eq_true, Bool.or_eq_true, Bool.or_eq_false_iff, beq_iff_eq, beq_eq_false_iff_ne, ne_eq, Int.not_lt, Int.not_le, Decidable.not_not] at hg10
    refine g_step_yes (j := 3) (t := 10) rfl rfl rfl rfl (s_val (v_move rfl) rfl rfl ?_)
    refine g_step_yes (j := 3) (t := 10) rfl rfl rfl rfl (s_callp rfl rfl rfl (fewL_ok b _ _ rfl hhb hlb) ?_)
    rintro _ rfl
    refine g_step_yes (j := 3) (t := 10) rfl rfl rfl rfl (s_val (v_not rfl) rfl rfl ?_)
    refine g_step rfl (s_val (v_pick_f rfl rfl) rfl rfl ?_)
    refine g_nil ?_
    refine g_next hK2 ?_
    refine g_cond rfl (fun hc14 => ?_) (fun hc14 => ?_)
    · try simp only [decide_eq_true_eq, decide_eq_false_iff_not, Bool.not_eq_true', Bool.not_eq_false', Bool.not_eq_eq_eq_not, Bool.not_true, Bool.not_false, Bool.and_eq_true, Bool.or_eq_true, Bool.or_eq_false_iff, beq_iff_eq, beq_eq_false_iff_ne, ne_eq, Int.not_lt, Int.not_le, Decidable.not_not] at hc14
      refine g_seq (fun K4 hK4 => ?_)
      refine g_region ?_
      refine g_step rfl (s_callp rfl rfl rfl (awake44_ok _) ?_)
      rintro _ rfl
      refine g_step rfl (s_val (v_assign rfl) rfl rfl ?_)
      refine g_nil ?_
      refine g_next hK4 ?_
      refine g_ret ?_
      refine g_then_ret ?_
      refine g_end1 (.inl rfl) Try.results3 (.tmp rfl) [] (ASub.refl _) (AHeap.sub_refl _) (fun p hp => by cases hp) ⟨rfl, ?_⟩
      rfl
    · try simp only [decide_eq_true_eq, decide_eq_false_iff_not, Bool.not_eq_true', Bool.not_eq_false', Bool.not_eq_eq_eq_not, Bool.not_true, Bool.not_false, Bool.and_eq_true, Bool.or_eq_true, Bool.or_eq_false_iff, beq_iff_eq, beq_eq_false_iff_ne, ne_eq, Int.not_lt, Int.not_le, Decidable.not_not] at hc14
      have hf : fewL a = true ∧ fewL b = true := by first | exact ⟨by assumption, by assumption⟩ | simp_all
      obtain ⟨ha20, hsa⟩ := fewL_small hf.1
      obtain ⟨hb20, hsb⟩ := fewL_small hf.2
      refine g_skip ?_
      refine g_next hK1 ?_
      refine g_seq (fun K5 hK5 => ?_)
      refine g_region ?_
      refine g_step rfl (s_val (v_move rfl) rfl rfl ?_)
      refine g_step rfl (s_val (v_move rfl) rfl rfl ?_)
      refine g_step rfl (s_callp rfl rfl rfl (between_ok a b _ (by omega) (by omega) hsa hsb) ?_)
      rintro _ rfl
      refine g_step rfl (s_val (v_move rfl) rfl rfl ?_)
      refine g_step rfl (s_val (v_extract rfl rfl) rfl rfl ?_)
      refine g_step rfl (s_val (v_extract rfl rfl) rfl rfl ?_)
      refine g_step rfl (s_val (v_assign rfl) rfl rfl ?_)
      refine g_step rfl (s_val (v_assign rfl) rfl rfl ?_)
      refine g_nil ?_
      refine g_next hK5 ?_
      refine g_seq (fun K6 hK6 => ?_)
      refine g_seq (fun K7 hK7 => ?_)
      refine g_region ?_
      refine g_step rfl (s_val (v_move rfl) rfl rfl ?_)
      refine g_step rfl (s_callp rfl rfl rfl (sorted_ok a _ (by omega) hsa) ?_)
      rintro _ rfl
      refine g_step rfl (s_val (v_not rfl) rfl rfl ?_)
      refine g_step rfl (s_val (v_move rfl) rfl rfl ?_)
      refine g_split 25 rfl (fun hg25 => ?_) (fun hg25 => ?_)
      · try simp only [decide_eq_true_eq, decide_eq_false_iff_not, Bool.not_eq_true', Bool.not_eq_false', Bool.not_eq_eq_eq_not, Bool.not_true, Bool.not_false, Bool.and_eq_true, Bool.or_eq_true, Bool.or_eq_false_iff, beq_iff_eq, beq_eq_false_iff_ne, ne_eq, Int.not_lt, Int.not_le, Decidable.not_not] at hg25
        refine g_step_no (j := 3) (t := 25) rfl rfl rfl rfl rfl rfl rfl ?_
        refine g_step_no (j := 3) (t := 25) rfl rfl rfl rfl rfl rfl rfl ?_
        refine g_step_no (j := 3) (t := 25) rfl rfl rfl rfl rfl rfl rfl ?_
        refine g_step rfl (s_val (v_pick_t rfl rfl) rfl rfl ?_)
        refine g_nil ?_
        refine g_next hK7 ?_
        first | refine g_keep [0, 1, 5, 6, 29] [] [] (keep_cons rfl (keep_cons rfl (keep_cons rfl (keep_cons rfl (keep_cons rfl keep_nil))))) lkeep_nil keep_nil rfl ?_ | refine g_keep [0, 1, 5, 6, 29] [] [] rfl rfl rfl rfl ?_
        refine g_cond rfl (fun _ => ?_) (fun h => by cases h)
        refine g_seq (fun K8 hK8 => ?_)
        refine g_region ?_
        refine g_step rfl (s_val (v_move rfl) rfl rfl ?_)
        refine g_step rfl (s_val (v_not rfl) rfl rfl ?_)
        refine g_step rfl (s_val (v_move rfl) rfl rfl ?_)
        refine g_split 32 rfl (fun hg32 => ?_) (fun hg32 => ?_)
        · try simp only [decide_eq_true_eq, decide_eq_false_iff_not, Bool.not_eq_true', Bool.not_eq_false', Bool.not_eq_eq_eq_not, Bool.not_true, Bool.not_false, Bool.and_eq_true, Bool.or_eq_true, Bool.or_eq_false_iff, beq_iff_eq, beq_eq_false_iff_ne, ne_eq, Int.not_lt, Int.not_le, Decidable.not_not] at hg32
          refine g_step_yes (j := 2) (t := 32) rfl rfl rfl rfl (s_val (v_move rfl) rfl rfl ?_)
          refine g_step_yes (j := 2) (t := 32) rfl rfl rfl rfl (s_val (v_len ty25 rfl (by first | rfl | assumption) (by first | exact List.length_map .. | rfl)) rfl rfl ?_)
          refine g_step_yes (j := 2) (t := 32) rfl rfl rfl rfl (s_val (v_eql rfl rfl) rfl rfl ?_)
          refine g_step rfl (s_val (v_pick_t rfl rfl) rfl rfl ?_)
          refine g_step rfl (s_val (v_move rfl) rfl rfl ?_)
          refine g_split 37 rfl (fun hg37 => ?_) (fun hg37 => ?_)
          · try simp only [decide_eq_true_eq, decide_eq_false_iff_not, Bool.not_eq_true', Bool.not_eq_false', Bool.not_eq_eq_eq_not, Bool.not_true, Bool.not_false, Bool.and_eq_true, Bool.or_eq_true, Bool.or_eq_false_iff, beq_iff_eq, beq_eq_false_iff_ne, ne_eq, Int.not_lt, Int.not_le, Decidable.not_not] at hg37
            refine g_step_yes (j := 7) (t := 37) rfl rfl rfl rfl (s_callp rfl rfl rfl (awake44_ok _) ?_)
            rintro _ rfl
            refine g_step rfl (s_val (v_pick_t rfl rfl) rfl rfl ?_)
            refine g_step rfl (s_val (v_assign rfl) rfl rfl ?_)
            refine g_nil ?_
            refine g_next hK8 ?_
            refine g_ret ?_
            refine g_then_ret ?_
            refine g_end1 (.inl rfl) Try.results3 (.tmp rfl) [] (ASub.refl _) (AHeap.sub_refl _) (fun p hp => by cases hp) ⟨rfl, ?_⟩
            rfl
          · exfalso; (try simp only [decide_eq_true_eq, decide_eq_false_iff_not, Bool.not_eq_true', Bool.not_eq_false', Bool.not_eq_eq_eq_not, Bool.not_true, Bool.not_false, Bool.and_eq_true, Bool.or_eq_true, Bool.or_eq_false_iff, beq_iff_eq, beq_eq_false_iff_ne, ne_eq, Int.not_lt, Int.not_le, Decidable.not_not] at hg37); simp_all [evB]
        · exfalso; (try simp only [decide_eq_true_eq, decide_eq_false_iff_not, Bool.not_eq_true', Bool.not_eq_false', Bool.not_eq_eq_eq_not, Bool.not_true, Bool.not_false, Bool.and_eq_true, Bool.or_eq_true, Bool.or_eq_false_iff, beq_iff_eq, beq_eq_false_iff_ne, ne_eq, Int.not_lt, Int.not_le, Decidable.not_not] at hg32); simp_all
      · try simp only [decide_eq_true_eq, decide_eq_false_iff_not, Bool.not_eq_true', Bool.not_eq_false', Bool.not_eq_eq_eq_not, Bool.not_true, Bool.not_false, Bool.and_eq_true, Bool.or_eq_true, Bool.or_eq_false_iff, beq_iff_eq, beq_eq_false_iff_ne, ne_eq, Int.not_lt, Int.not_le, Decidable.not_not] at hg25
        refine g_step_yes (j := 3) (t := 25) rfl rfl rfl rfl (s_val (v_move rfl) rfl rfl ?_)
        refine g_step_yes (j := 3) (t := 25) rfl rfl rfl rfl (s_callp rfl rfl rfl (sorted_ok b _ (by omega) hsb) ?_)
        rintro _ rfl
        refine g_step_yes (j := 3) (t := 25) rfl rfl rfl rfl (s_val (v_not rfl) rfl rfl ?_)
        refine g_step rfl (s_val (v_pick_f rfl rfl) rfl rfl ?_)
        refine g_nil ?_
        refine g_next hK7 ?_
        first | refine g_keep [0, 1, 5, 6, 29] [] [] (keep_cons rfl (keep_cons rfl (keep_cons rfl (keep_cons rfl (keep_cons rfl keep_nil))))) lkeep_nil keep_nil rfl ?_ | refine g_keep [0, 1, 5, 6, 29] [] [] rfl rfl rfl rfl ?_
        refine g_cond rfl (fun hc29 => ?_) (fun hc29 => ?_)
        · try simp only [decide_eq_true_eq, decide_eq_false_iff_not, Bool.not_eq_true', Bool.not_eq_false', Bool.not_eq_eq_eq_not, Bool.not_true, Bool.not_false, Bool.and_eq_true, Bool.or_eq_true, Bool.or_eq_false_iff, beq_iff_eq, beq_eq_false_iff_ne, ne_eq, Int.not_lt, Int.not_le, Decidable.not_not] at hc29
          have hno : (srt a && srt b) = false := by simp_all
          refine g_seq (fun K9 hK9 => ?_)
          refine g_region ?_
          refine g_step rfl (s_val (v_move rfl) rfl rfl ?_)
          refine g_step rfl (s_val (v_not rfl) rfl rfl ?_)
          refine g_step rfl (s_val (v_move rfl) rfl rfl ?_)
          refine g_split 32 rfl (fun hg32 => ?_) (fun hg32 => ?_)
          · try simp only [decide_eq_true_eq, decide_eq_false_iff_not, Bool.not_eq_true', Bool.not_eq_false', Bool.not_eq_eq_eq_not, Bool.not_true, Bool.not_false, Bool.and_eq_true, Bool.or_eq_true, Bool.or_eq_false_iff, beq_iff_eq, beq_eq_false_iff_ne, ne_eq, Int.not_lt, Int.not_le, Decidable.not_not] at hg32
            refine g_step_yes (j := 2) (t := 32) rfl rfl rfl rfl (s_val (v_move rfl) rfl rfl ?_)
            refine g_step_yes (j := 2) (t := 32) rfl rfl rfl rfl (s_val (v_len ty25 rfl (by first | rfl | assumption) (by first | exact List.length_map .. | rfl)) rfl rfl ?_)
            refine g_step_yes (j := 2) (t := 32) rfl rfl rfl rfl (s_val (v_eql rfl rfl) rfl rfl ?_)
            refine g_step rfl (s_val (v_pick_t rfl rfl) rfl rfl ?_)
            refine g_step rfl (s_val (v_move rfl) rfl rfl ?_)
            refine g_split 37 rfl (fun hg37 => ?_) (fun hg37 => ?_)
            · try simp only [decide_eq_true_eq, decide_eq_false_iff_not, Bool.not_eq_true', Bool.not_eq_false', Bool.not_eq_eq_eq_not, Bool.not_true, Bool.not_false, Bool.and_eq_true, Bool.or_eq_true, Bool.or_eq_false_iff, beq_iff_eq, beq_eq_false_iff_ne, ne_eq, Int.not_lt, Int.not_le, Decidable.not_not] at hg37
              refine g_step_yes (j := 7) (t := 37) rfl rfl rfl rfl (s_callp rfl rfl rfl (awake44_ok _) ?_)
              rintro _ rfl
              refine g_step rfl (s_val (v_pick_t rfl rfl) rfl rfl ?_)
              refine g_step rfl (s_val (v_assign rfl) rfl rfl ?_)
              refine g_nil ?_
              refine g_next hK9 ?_
              refine g_ret ?_
              refine g_then_ret ?_
              refine g_end1 (.inl rfl) Try.results3 (.tmp rfl) [] (ASub.refl _) (AHeap.sub_refl _) (fun p hp => by cases hp) ⟨rfl, ?_⟩
              rfl
            · exfalso; (try simp only [decide_eq_true_eq, decide_eq_false_iff_not, Bool.not_eq_true', Bool.not_eq_false', Bool.not_eq_eq_eq_not, Bool.not_true, Bool.not_false, Bool.and_eq_true, Bool.or_eq_true, Bool.or_eq_false_iff, beq_iff_eq, beq_eq_false_iff_ne, ne_eq, Int.not_lt, Int.not_le, Decidable.not_not] at hg37); simp_all [evB]
          · exfalso; (try simp only [decide_eq_true_eq, decide_eq_false_iff_not, Bool.not_eq_true', Bool.not_eq_false', Bool.not_eq_eq_eq_not, Bool.not_true, Bool.not_false, Bool.and_eq_true, Bool.or_eq_true, Bool.or_eq_false_iff, beq_iff_eq, beq_eq_false_iff_ne, ne_eq, Int.not_lt, Int.not_le, Decidable.not_not] at hg32); simp_all
        · try simp only [decide_eq_true_eq, decide_eq_false_iff_not, Bool.not_eq_true', Bool.not_eq_false', Bool.not_eq_eq_eq_not, Bool.not_true, Bool.not_false, Bool.and_eq_true, Bool.or_eq_true, Bool.or_eq_false_iff, beq_iff_eq, beq_eq_false_iff_ne, ne_eq, Int.not_lt, Int.not_le, Decidable.not_not] at hc29
          have hyes : srt a = true ∧ srt b = true := by simp_all
          have hyy : (srt a && srt b) = true := by simp [hyes]
          have hev : evB a b = evL a b := by rw [evB, if_pos hyy]
          have hel := ev_len a b
          refine g_skip ?_
          refine g_next hK6 ?_
          refine g_seq (fun K10 hK10 => ?_)
          refine g_region ?_
          refine g_step rfl (s_val (v_move rfl) rfl rfl ?_)
          refine g_step rfl (s_val (v_move rfl) rfl rfl ?_)
          refine g_split 41 rfl (fun hg41 => ?_) (fun hg41 => ?_)
          · try simp only [decide_eq_true_eq, decide_eq_false_iff_not, Bool.not_eq_true', Bool.not_eq_false', Bool.not_eq_eq_eq_not, Bool.not_true, Bool.not_false, Bool.and_eq_true, Bool.or_eq_true, Bool.or_eq_false_iff, beq_iff_eq, beq_eq_false_iff_ne, ne_eq, Int.not_lt, Int.not_le, Decidable.not_not] at hg41
            refine g_step_yes (j := 1) (t := 41) rfl rfl rfl rfl (s_val (v_move rfl) rfl rfl ?_)
            refine g_step_yes (j := 1) (t := 41) rfl rfl rfl rfl (s_val (v_move rfl) rfl rfl ?_)
            refine g_step_yes (j := 1) (t := 41) rfl rfl rfl rfl (s_val (v_move rfl) rfl rfl ?_)
            refine g_step_yes (j := 1) (t := 41) rfl rfl rfl rfl (s_callp rfl rfl rfl (between44_ok a b _ (by omega) (by omega) hsa hsb hyes.1 hyes.2) ?_)
            rintro _ rfl
            refine g_step_yes (j := 1) (t := 41) rfl rfl rfl rfl (s_callp rfl rfl rfl (same44_ok (evB a b) (evL a b) _ _ _ rfl rfl (by rw [hev]; omega)) ?_)
            rintro _ rfl
            refine g_step rfl (s_val (v_pick_t rfl rfl) rfl rfl ?_)
            refine g_step rfl (s_val (v_move rfl) rfl rfl ?_)
            refine g_split 48 rfl (fun hg48 => ?_) (fun hg48 => ?_)
            · try simp only [decide_eq_true_eq, decide_eq_false_iff_not, Bool.not_eq_true', Bool.not_eq_false', Bool.not_eq_eq_eq_not, Bool.not_true, Bool.not_false, Bool.and_eq_true, Bool.or_eq_true, Bool.or_eq_false_iff, beq_iff_eq, beq_eq_false_iff_ne, ne_eq, Int.not_lt, Int.not_le, Decidable.not_not] at hg48
              refine g_step_yes (j := 8) (t := 48) rfl rfl rfl rfl (s_val (v_move rfl) rfl rfl ?_)
              refine g_step_yes (j := 8) (t := 48) rfl rfl rfl rfl (s_val (v_len ty25 rfl (by first | rfl | assumption) (by first | exact List.length_map .. | rfl)) rfl rfl ?_)
              refine g_step_yes (j := 8) (t := 48) rfl rfl rfl rfl (s_val (v_eql rfl rfl) rfl rfl ?_)
              refine g_step_yes (j := 8) (t := 48) rfl rfl rfl rfl (s_val (v_move rfl) rfl rfl ?_)
              refine g_step_yes (j := 8) (t := 48) rfl rfl rfl rfl (s_val (v_move rfl) rfl rfl ?_)
              refine g_step_yes (j := 8) (t := 48) rfl rfl rfl rfl (s_callp rfl rfl rfl (allAlike_ok a b _ _ _ rfl rfl (by omega) hsa) ?_)
              rintro _ rfl
              refine g_step_yes (j := 8) (t := 48) rfl rfl rfl rfl (s_val (v_bool_eql ty4 rfl rfl) rfl rfl ?_)
              refine g_step rfl (s_val (v_pick_t rfl rfl) rfl rfl ?_)
              refine g_step rfl (s_val (v_move rfl) rfl rfl ?_)
              refine g_split 57 rfl (fun hg57 => ?_) (fun hg57 => ?_)
              · try simp only [decide_eq_true_eq, decide_eq_false_iff_not, Bool.not_eq_true', Bool.not_eq_false', Bool.not_eq_eq_eq_not, Bool.not_true, Bool.not_false, Bool.and_eq_true, Bool.or_eq_true, Bool.or_eq_false_iff, beq_iff_eq, beq_eq_false_iff_ne, ne_eq, Int.not_lt, Int.not_le, Decidable.not_not] at hg57
                refine g_step_yes (j := 17) (t := 57) rfl rfl rfl rfl (s_callp rfl rfl rfl (awake44_ok _) ?_)
                rintro _ rfl
                refine g_step rfl (s_val (v_pick_t rfl rfl) rfl rfl ?_)
                refine g_step rfl (s_val (v_assign rfl) rfl rfl ?_)
                refine g_nil ?_
                refine g_next hK10 ?_
                first | refine g_keep [4] [] [] (keep_cons rfl keep_nil) lkeep_nil keep_nil rfl ?_ | refine g_keep [4] [] [] rfl rfl rfl rfl ?_
                refine g_ret ?_
                refine g_end1 (.inl rfl) Try.results3 (.tmp rfl) [] (ASub.refl _) (AHeap.sub_refl _) (fun p hp => by cases hp) ⟨rfl, ?_⟩
                rfl
              · exfalso; (try simp only [decide_eq_true_eq, decide_eq_false_iff_not, Bool.not_eq_true', Bool.not_eq_false', Bool.not_eq_eq_eq_not, Bool.not_true, Bool.not_false, Bool.and_eq_true, Bool.or_eq_true, Bool.or_eq_false_iff, beq_iff_eq, beq_eq_false_iff_ne, ne_eq, Int.not_lt, Int.not_le, Decidable.not_not] at hg57); rw [hev] at hg57; have h9 := ev_same hyes.1 hyes.2; rw [← List.length_eq_zero_iff] at h9; simp [h9] at hg57
            · exfalso; (try simp only [decide_eq_true_eq, decide_eq_false_iff_not, Bool.not_eq_true', Bool.not_eq_false', Bool.not_eq_eq_eq_not, Bool.not_true, Bool.not_false, Bool.and_eq_true, Bool.or_eq_true, Bool.or_eq_false_iff, beq_iff_eq, beq_eq_false_iff_ne, ne_eq, Int.not_lt, Int.not_le, Decidable.not_not] at hg48); simp [hev] at hg48
          · exfalso; (try simp only [decide_eq_true_eq, decide_eq_false_iff_not, Bool.not_eq_true', Bool.not_eq_false', Bool.not_eq_eq_eq_not, Bool.not_true, Bool.not_false, Bool.and_eq_true, Bool.or_eq_true, Bool.or_eq_false_iff, beq_iff_eq, beq_eq_false_iff_ne, ne_eq, Int.not_lt, Int.not_le, Decidable.not_not] at hg41); simp_all

theorem eventGrows_ok (a b : List Rc) (hha : ∀ r ∈ a, Held r.bag) (hhb : ∀ r ∈ b, Held r.bag) (hla : a.length ≤ 140737488351232) (hlb : b.length ≤ 140737488351232) (G : AHeap) : PCalls Try.prog 5 [encRs a, encRs b] G (fun v => v = .bool true) := by
  refine LCalls.intro 85 fi5 rfl Try.ntmps5 rfl (fun _ h => h.elim) (fun H hH w0 hw0 => ?_)
  refine g_seq (fun K0 hK0 => ?_)
  refine g_region ?_
  refine g_step rfl (s_val (v_assign rfl) rfl rfl ?_)
  refine g_nil ?_
  refine g_next hK0 ?_
  refine g_seq (fun K1 hK1 => ?_)
  refine g_seq (fun K2 hK2 => ?_)
  refine g_region ?_
  refine g_step rfl (s_val (v_move rfl) rfl rfl ?_)
  refine g_step rfl (s_callp rfl rfl rfl (fewL_ok a _ _ rfl hha hla) ?_)
  rintro _ rfl
  refine g_step rfl (s_val (v_not rfl) rfl rfl ?_)
  refine g_step rfl (s_val (v_move rfl) rfl rfl ?_)
  refine g_split 15 rfl (fun hg15 => ?_) (fun hg15 => ?_)
  · try simp only [decide_eq_true_eq, decide_eq_false_iff_not, Bool.not_eq_true', Bool.not_eq_false', Bool.not_eq_eq_eq_not, Bool.not_true, Bool.not_false, Bool.and_eq_true, Bool.or_eq_true, Bool.or_eq_false_iff, beq_iff_eq, beq_eq_false_iff_ne, ne_eq, Int.not_lt, Int.not_le, Decidable.not_not] at hg15
    refine g_step_no (j := 3) (t := 15) rfl rfl rfl rfl rfl rfl rfl ?_
    refine g_step_no (j := 3) (t := 15) rfl rfl rfl rfl rfl rfl rfl ?_
    refine g_step_no (j := 3) (t := 15) rfl rfl rfl rfl rfl rfl rfl ?_
    refine g_step rfl (s_val (v_pick_t rfl rfl) rfl rfl ?_)
    refine g_nil ?_
    refine g_next hK2 ?_
    refine g_cond rfl (fun _ => ?_) (fun h => by cases h)
    refine g_seq (fun K3 hK3 => ?_)
    refine g_region ?_
    refine g_step rfl (s_callp rfl rfl rfl (awake44_ok _) ?_)
    rintro _ rfl
    refine g_step rfl (s_val (v_assign rfl) rfl rfl ?_)
    refine g_nil ?_
    refine g_next hK3 ?_
    refine g_ret ?_
    refine g_then_ret ?_
    refine g_end1 (.inl rfl) Try.results5 (.tmp rfl) [] (ASub.refl _) (AHeap.sub_refl _) (fun p hp => by cases hp) ⟨rfl, ?_⟩
    rfl
  · try simp only [decide_eq_true_eq, decide_eq_false_iff_not, Bool.not_eq_true', Bool.not_eq_false', Bool.not_eq_eq_eq_not, Bool.not_true, Bool.not_false, Bool.and_eq_true, Bool.or_eq_true, Bool.or_eq_false_iff, beq_iff_eq, beq_eq_false_iff_ne, ne_eq, Int.not_lt, Int.not_le, Decidable.not_not] at hg15
    refine g_step_yes (j := 3) (t := 15) rfl rfl rfl rfl (s_val (v_move rfl) rfl rfl ?_)
    refine g_step_yes (j := 3) (t := 15) rfl rfl rfl rfl (s_callp rfl rfl rfl (fewL_ok b _ _ rfl hhb hlb) ?_)
    rintro _ rfl
    refine g_step_yes (j := 3) (t := 15) rfl rfl rfl rfl (s_val (v_not rfl) rfl rfl ?_)
    refine g_step rfl (s_val (v_pick_f rfl rfl) rfl rfl ?_)
    refine g_nil ?_
    refine g_next hK2 ?_
    refine g_cond rfl (fun hc19 => ?_) (fun hc19 => ?_)
    · try simp only [decide_eq_true_eq, decide_eq_false_iff_not, Bool.not_eq_true', Bool.not_eq_false', Bool.not_eq_eq_eq_not, Bool.not_true, Bool.not_false, Bool.and_eq_true, Bool.or_eq_true, Bool.or_eq_false_iff, beq_iff_eq, beq_eq_false_iff_ne, ne_eq, Int.not_lt, Int.not_le, Decidable.not_not] at hc19
      refine g_seq (fun K4 hK4 => ?_)
      refine g_region ?_
      refine g_step rfl (s_callp rfl rfl rfl (awake44_ok _) ?_)
      rintro _ rfl
      refine g_step rfl (s_val (v_assign rfl) rfl rfl ?_)
      refine g_nil ?_
      refine g_next hK4 ?_
      refine g_ret ?_
      refine g_then_ret ?_
      refine g_end1 (.inl rfl) Try.results5 (.tmp rfl) [] (ASub.refl _) (AHeap.sub_refl _) (fun p hp => by cases hp) ⟨rfl, ?_⟩
      rfl
    · try simp only [decide_eq_true_eq, decide_eq_false_iff_not, Bool.not_eq_true', Bool.not_eq_false', Bool.not_eq_eq_eq_not, Bool.not_true, Bool.not_false, Bool.and_eq_true, Bool.or_eq_true, Bool.or_eq_false_iff, beq_iff_eq, beq_eq_false_iff_ne, ne_eq, Int.not_lt, Int.not_le, Decidable.not_not] at hc19
      have hf : fewL a = true ∧ fewL b = true := by first | exact ⟨by assumption, by assumption⟩ | simp_all
      obtain ⟨ha20, hsa⟩ := fewL_small hf.1
      obtain ⟨hb20, hsb⟩ := fewL_small hf.2
      refine g_skip ?_
      refine g_next hK1 ?_
      refine g_seq (fun K5 hK5 => ?_)
      refine g_region ?_
      refine g_step rfl (s_val (v_move rfl) rfl rfl ?_)
      refine g_step rfl (s_val (v_move rfl) rfl rfl ?_)
      refine g_step rfl (s_lit ty31 ty22 rfl rfl rfl rfl rfl rfl rfl ?_)
      refine g_step rfl (s_callp rfl rfl rfl (merge_ok [a, b] _ (by simp; omega) (by simp) (by simp; exact ⟨hsa, hsb⟩)) ?_)
      rintro _ rfl
      refine g_step rfl (s_val (v_move rfl) rfl rfl ?_)
      refine g_step rfl (s_val (v_extract rfl rfl) rfl rfl ?_)
      refine g_step rfl (s_val (v_extract rfl rfl) rfl rfl ?_)
      refine g_step rfl (s_val (v_assign rfl) rfl rfl ?_)
      refine g_step rfl (s_val (v_assign rfl) rfl rfl ?_)
      refine g_nil ?_
      refine g_next hK5 ?_
      refine g_seq (fun K6 hK6 => ?_)
      refine g_seq (fun K7 hK7 => ?_)
      refine g_region ?_
      refine g_step rfl (s_val (v_move rfl) rfl rfl ?_)
      refine g_step rfl (s_val (v_not rfl) rfl rfl ?_)
      refine g_nil ?_
      refine g_next hK7 ?_
      refine g_cond rfl (fun hc29 => ?_) (fun hc29 => ?_)
      · try simp only [decide_eq_true_eq, decide_eq_false_iff_not, Bool.not_eq_true', Bool.not_eq_false', Bool.not_eq_eq_eq_not, Bool.not_true, Bool.not_false, Bool.and_eq_true, Bool.or_eq_true, Bool.or_eq_false_iff, beq_iff_eq, beq_eq_false_iff_ne, ne_eq, Int.not_lt, Int.not_le, Decidable.not_not] at hc29
        refine g_seq (fun K8 hK8 => ?_)
        refine g_region ?_
        refine g_step rfl (s_callp rfl rfl rfl (awake44_ok _) ?_)
        rintro _ rfl
        refine g_step rfl (s_val (v_assign rfl) rfl rfl ?_)
        refine g_nil ?_
        refine g_next hK8 ?_
        refine g_ret ?_
        refine g_then_ret ?_
        refine g_end1 (.inl rfl) Try.results5 (.tmp rfl) [] (ASub.refl _) (AHeap.sub_refl _) (fun p hp => by cases hp) ⟨rfl, ?_⟩
        rfl
      · try simp only [decide_eq_true_eq, decide_eq_false_iff_not, Bool.not_eq_true', Bool.not_eq_false', Bool.not_eq_eq_eq_not, Bool.not_true, Bool.not_false, Bool.and_eq_true, Bool.or_eq_true, Bool.or_eq_false_iff, beq_iff_eq, beq_eq_false_iff_ne, ne_eq, Int.not_lt, Int.not_le, Decidable.not_not] at hc29
        have hyes : srt a = true ∧ srt b = true := by by_cases h9 : srt a = true ∧ srt b = true; exact h9; simp [mergeAll, h9] at hc29
        have hma : mergeAll [a, b] = ((mergeL [a, b].flatten), true) := by rw [mergeAll, if_pos (by simp [hyes])]
        have hml : (mergeL [a, b].flatten).length ≤ 40 := by have h9 := mergeL_length [a, b].flatten; have h8 : [a, b].flatten.length = a.length + b.length := (by simp); omega
        have hvs : ∀ r ∈ [a, b].flatten, recValid r = true := fun r hr => by simp at hr; rcases hr with hr | hr; exact (srt_incr hyes.1).2 r hr; exact (srt_incr hyes.2).2 r hr
        have hms := mergeL_srt hvs
        have hsM : ∀ r ∈ (mergeL [a, b].flatten), Small r.bag := mergeL_small (fun r hr => by simp at hr; rcases hr with hr | hr; exact hsa r hr; exact hsb r hr)
        have hgr := grow_evs hyes.1 hyes.2
        have hev : evB a (mergeL [a, b].flatten) = evL a (mergeL [a, b].flatten) := by rw [evB, hyes.1, hms]; rfl
        have hel := ev_len a (mergeL [a, b].flatten)
        rw [hma]
        refine g_skip ?_
        refine g_next hK6 ?_
        refine g_seq (fun K9 hK9 => ?_)
        refine g_region ?_
        refine g_step rfl (s_val (v_move rfl) rfl rfl ?_)
        refine g_step rfl (s_val (v_move rfl) rfl rfl ?_)
        refine g_step rfl (s_callp rfl rfl rfl (between_ok a (mergeL [a, b].flatten) _ (by omega) (by omega) hsa hsM) ?_)
        rintro _ rfl
        rw [hev, hyes.1, hms]
        refine g_step rfl (s_val (v_move rfl) rfl rfl ?_)
        refine g_step rfl (s_val (v_extract rfl rfl) rfl rfl ?_)
        refine g_step rfl (s_val (v_extract rfl rfl) rfl rfl ?_)
        refine g_step rfl (s_val (v_assign rfl) rfl rfl ?_)
        refine g_step rfl (s_val (v_assign rfl) rfl rfl ?_)
        refine g_nil ?_
        refine g_next hK9 ?_
        first | refine g_keep [7, 8] [] [] (keep_cons rfl (keep_cons rfl keep_nil)) lkeep_nil keep_nil rfl ?_ | refine g_keep [7, 8] [] [] rfl rfl rfl rfl ?_
        refine g_seq (fun K10 hK10 => ?_)
        refine g_seq (fun K11 hK11 => ?_)
        refine g_region ?_
        refine g_step rfl (s_val (v_move rfl) rfl rfl ?_)
        refine g_step rfl (s_val (v_not rfl) rfl rfl ?_)
        refine g_nil ?_
        refine g_next hK11 ?_
        refine g_cond rfl (fun hc38 => ?_) (fun hc38 => ?_)
        · exfalso; (try simp only [decide_eq_true_eq, decide_eq_false_iff_not, Bool.not_eq_true', Bool.not_eq_false', Bool.not_eq_eq_eq_not, Bool.not_true, Bool.not_false, Bool.and_eq_true, Bool.or_eq_true, Bool.or_eq_false_iff, beq_iff_eq, beq_eq_false_iff_ne, ne_eq, Int.not_lt, Int.not_le, Decidable.not_not] at hc38); simp at hc38
        · try simp only [decide_eq_true_eq, decide_eq_false_iff_not, Bool.not_eq_true', Bool.not_eq_false', Bool.not_eq_eq_eq_not, Bool.not_true, Bool.not_false, Bool.and_eq_true, Bool.or_eq_true, Bool.or_eq_false_iff, beq_iff_eq, beq_eq_false_iff_ne, ne_eq, Int.not_lt, Int.not_le, Decidable.not_not] at hc38
          refine g_skip ?_
          refine g_next hK10 ?_
          refine g_seq (fun K12 hK12 => ?_)
          refine g_seq (fun K13 hK13 => ?_)
          refine g_region ?_
          refine g_step rfl (s_val (v_assign rfl) rfl rfl ?_)
          refine g_nil ?_
          refine g_next hK13 ?_
          refine g_block ?_
          first | refine g_keep [7, 9] [] [] (keep_cons rfl (keep_cons rfl keep_nil)) lkeep_nil keep_nil rfl ?_ | refine g_keep [7, 9] [] [] rfl rfl rfl rfl ?_
          refine g_loop (fun n env L B G => ∃ (i : Nat) , i ≤ (evL a (mergeL [a, b].flatten)).length ∧ n = (evL a (mergeL [a, b].flatten)).length - i ∧ env = [(7, (encEs (evL a (mergeL [a, b].flatten)))), (9, .int .i64 (i : Int))] ∧ L = [] ∧ B = [] ∧ H = G ∧ True) ((evL a (mergeL [a, b].flatten)).length) ⟨0, Nat.zero_le _, rfl, rfl, rfl, rfl, rfl, trivial⟩ (fun n env L B G hI => ?_)
          obtain ⟨i, hi, rfl, rfl, rfl, rfl, rfl, _hi⟩ := hI
          refine g_seq (fun K14 hK14 => ?_)
          refine g_seq (fun K15 hK15 => ?_)
          refine g_region ?_
          refine g_step rfl (s_val (v_move rfl) rfl rfl ?_)
          refine g_step rfl (s_val (v_move rfl) rfl rfl ?_)
          refine g_step rfl (s_val (v_len ty25 rfl (by first | rfl | assumption) (by first | exact List.length_map .. | rfl)) rfl rfl ?_)
          refine g_step rfl (s_val (v_lss rfl rfl) rfl rfl ?_)
          refine g_nil ?_
          refine g_next hK15 ?_
          refine g_cond rfl (fun hc42 => ?_) (fun hc42 => ?_)
          · try simp only [decide_eq_true_eq, decide_eq_false_iff_not, Bool.not_eq_true', Bool.not_eq_false', Bool.not_eq_eq_eq_not, Bool.not_true, Bool.not_false, Bool.and_eq_true, Bool.or_eq_true, Bool.or_eq_false_iff, beq_iff_eq, beq_eq_false_iff_ne, ne_eq, Int.not_lt, Int.not_le, Decidable.not_not] at hc42
            obtain ⟨e, he⟩ := get_some (l := (evL a (mergeL [a, b].flatten))) (k := i) (by omega)
            obtain ⟨hge9, hge5⟩ := hgr e (mem_get he)
            refine g_skip ?_
            refine g_next hK14 ?_
            refine g_seq (fun K16 hK16 => ?_)
            refine g_block ?_
            refine g_seq (fun K17 hK17 => ?_)
            refine g_seq (fun K18 hK18 => ?_)
            refine g_region ?_
            refine g_step rfl (s_val (v_move rfl) rfl rfl ?_)
            refine g_step rfl (s_val (v_move rfl) rfl rfl ?_)
            refine g_step rfl (s_val (v_indexAddr ty25 ty37 rfl rfl (by first | rfl | assumption) (by first | rfl | exact (rfl : (0 : Int) = ((0 : Nat) : Int)) | exact (Int.toNat_of_nonneg (by omega)).symm) (map_get he) rfl) rfl rfl ?_)
            refine g_step rfl (s_val (by first | exact v_fieldAddr ty37 fo37_0 ty35 rfl | exact v_fieldAddr_box ty37 fo37_0 ty35 rfl) rfl rfl ?_)
            refine g_step rfl (s_val (by first | exact v_load ty35 rfl rfl (by first | rfl | assumption) (map_get he) rfl | exact v_load_box ty35 rfl rfl (by assumption) rfl) rfl rfl ?_)
            refine g_step rfl (s_val (v_eql rfl rfl) rfl rfl ?_)
            refine g_nil ?_
            refine g_next hK18 ?_
            refine g_cond rfl (fun hc50 => ?_) (fun hc50 => ?_)
            · exfalso; (try simp only [decide_eq_true_eq, decide_eq_false_iff_not, Bool.not_eq_true', Bool.not_eq_false', Bool.not_eq_eq_eq_not, Bool.not_true, Bool.not_false, Bool.and_eq_true, Bool.or_eq_true, Bool.or_eq_false_iff, beq_iff_eq, beq_eq_false_iff_ne, ne_eq, Int.not_lt, Int.not_le, Decidable.not_not] at hc50); omega
            · try simp only [decide_eq_true_eq, decide_eq_false_iff_not, Bool.not_eq_true', Bool.not_eq_false', Bool.not_eq_eq_eq_not, Bool.not_true, Bool.not_false, Bool.and_eq_true, Bool.or_eq_true, Bool.or_eq_false_iff, beq_iff_eq, beq_eq_false_iff_ne, ne_eq, Int.not_lt, Int.not_le, Decidable.not_not] at hc50
              refine g_skip ?_
              refine g_next hK17 ?_
              refine g_seq (fun K19 hK19 => ?_)
              refine g_region ?_
              refine g_step rfl (s_val (v_move rfl) rfl rfl ?_)
              refine g_step rfl (s_val (v_move rfl) rfl rfl ?_)
              refine g_step rfl (s_val (v_indexAddr ty25 ty37 rfl rfl (by first | rfl | assumption) (by first | rfl | exact (rfl : (0 : Int) = ((0 : Nat) : Int)) | exact (Int.toNat_of_nonneg (by omega)).symm) (map_get he) rfl) rfl rfl ?_)
              refine g_step rfl (s_val (by first | exact v_fieldAddr ty37 fo37_0 ty35 rfl | exact v_fieldAddr_box ty37 fo37_0 ty35 rfl) rfl rfl ?_)
              refine g_step rfl (s_val (by first | exact v_load ty35 rfl rfl (by first | rfl | assumption) (map_get he) rfl | exact v_load_box ty35 rfl rfl (by assumption) rfl) rfl rfl ?_)
              refine g_step rfl (s_val (v_eql rfl rfl) rfl rfl ?_)
              refine g_nil ?_
              refine g_next hK19 ?_
              refine g_cond rfl (fun hc56 => ?_) (fun hc56 => ?_)
              · try simp only [decide_eq_true_eq, decide_eq_false_iff_not, Bool.not_eq_true', Bool.not_eq_false', Bool.not_eq_eq_eq_not, Bool.not_true, Bool.not_false, Bool.and_eq_true, Bool.or_eq_true, Bool.or_eq_false_iff, beq_iff_eq, beq_eq_false_iff_ne, ne_eq, Int.not_lt, Int.not_le, Decidable.not_not] at hc56
                refine g_seq (fun K20 hK20 => ?_)
                refine g_region ?_
                refine g_step rfl (s_val (v_assign rfl) rfl rfl ?_)
                refine g_nil ?_
                refine g_next hK20 ?_
                refine g_seq (fun K21 hK21 => ?_)
                refine g_seq (fun K22 hK22 => ?_)
                refine g_region ?_
                refine g_step rfl (s_val (v_assign rfl) rfl rfl ?_)
                refine g_nil ?_
                refine g_next hK22 ?_
                refine g_block ?_
                first | refine g_keep [7, 9, 10, 11] [] [] (keep_cons rfl (keep_cons rfl (keep_cons rfl (keep_cons rfl keep_nil)))) lkeep_nil keep_nil rfl ?_ | refine g_keep [7, 9, 10, 11] [] [] rfl rfl rfl rfl ?_
                refine g_loop (fun n env L B G => ∃ (j : Nat) (u : Bool), j ≤ (evL a (mergeL [a, b].flatten)).length ∧ n = (evL a (mergeL [a, b].flatten)).length - j ∧ env = [(7, (encEs (evL a (mergeL [a, b].flatten)))), (9, .int .i64 (i : Int)), (10, .bool u), (11, .int .i64 (j : Int))] ∧ L = [] ∧ B = [] ∧ H = G ∧ u = ((evL a (mergeL [a, b].flatten)).take j).any fun f => decide (f.k = 8 ∧ f.id = e.id)) ((evL a (mergeL [a, b].flatten)).length) ⟨0, false, Nat.zero_le _, rfl, rfl, rfl, rfl, rfl, rfl⟩ (fun n env L B G hI => ?_)
                obtain ⟨j, u, hj, rfl, rfl, rfl, rfl, rfl, hu⟩ := hI
                refine g_seq (fun K23 hK23 => ?_)
                refine g_seq (fun K24 hK24 => ?_)
                refine g_region ?_
                refine g_step rfl (s_val (v_move rfl) rfl rfl ?_)
                refine g_step rfl (s_val (v_move rfl) rfl rfl ?_)
                refine g_step rfl (s_val (v_len ty25 rfl (by first | rfl | assumption) (by first | exact List.length_map .. | rfl)) rfl rfl ?_)
                refine g_step rfl (s_val (v_lss rfl rfl) rfl rfl ?_)
                refine g_nil ?_
                refine g_next hK24 ?_
                refine g_cond rfl (fun hc60 => ?_) (fun hc60 => ?_)
                · try simp only [decide_eq_true_eq, decide_eq_false_iff_not, Bool.not_eq_true', Bool.not_eq_false', Bool.not_eq_eq_eq_not, Bool.not_true, Bool.not_false, Bool.and_eq_true, Bool.or_eq_true, Bool.or_eq_false_iff, beq_iff_eq, beq_eq_false_iff_ne, ne_eq, Int.not_lt, Int.not_le, Decidable.not_not] at hc60
                  obtain ⟨f, hf⟩ := get_some (l := (evL a (mergeL [a, b].flatten))) (k := j) (by omega)
                  refine g_skip ?_
                  refine g_next hK23 ?_
                  refine g_seq (fun K25 hK25 => ?_)
                  refine g_block ?_
                  refine g_seq (fun K26 hK26 => ?_)
                  refine g_draw (n := 19) (fun j => !([] : List Nat).contains j) rfl rfl ?_
                  refine m_take 0 false rfl rfl (by kernel_rfl) (by kernel_rfl) (by kernel_rfl) (fun _ _ _ _ h => h) (v_move rfl) rfl rfl ?_
                  refine m_take 1 false rfl rfl (by kernel_rfl) (by kernel_rfl) (by kernel_rfl) (fun _ _ _ _ h => h) (v_move rfl) rfl rfl ?_
                  refine m_take 2 false rfl rfl (by kernel_rfl) (by kernel_rfl) (by kernel_rfl) (fun _ _ _ _ h => h) (v_indexAddr ty25 ty37 rfl rfl (by first | rfl | assumption) (by first | rfl | exact (rfl : (0 : Int) = ((0 : Nat) : Int)) | exact (Int.toNat_of_nonneg (by omega)).symm) (map_get hf) rfl) rfl rfl ?_
                  refine m_take 3 false rfl rfl (by kernel_rfl) (by kernel_rfl) (by kernel_rfl) (fun _ _ _ _ h => h) (by first | exact v_fieldAddr ty37 fo37_0 ty35 rfl | exact v_fieldAddr_box ty37 fo37_0 ty35 rfl) rfl rfl ?_
                  refine m_take 4 true rfl rfl (by kernel_rfl) (by kernel_rfl) (by kernel_rfl) (fun _ _ _ _ h => h) (by first | exact v_load ty35 rfl rfl (by first | rfl | assumption) (map_get hf) rfl | exact v_load_box ty35 rfl rfl (by assumption) rfl) rfl rfl ?_
                  refine m_take 5 false rfl rfl (by kernel_rfl) (by kernel_rfl) (by kernel_rfl) (fun _ _ _ _ h => h) (v_eql rfl rfl) rfl rfl ?_
                  refine m_take 6 false rfl rfl (by kernel_rfl) (by kernel_rfl) (by kernel_rfl) (fun _ _ _ _ h => h) (v_move rfl) rfl rfl ?_
                  refine m_split 69 rfl (fun hg69 => ?_) (fun hg69 => ?_)
                  · try simp only [decide_eq_true_eq, decide_eq_false_iff_not, Bool.not_eq_true', Bool.not_eq_false', Bool.not_eq_eq_eq_not, Bool.not_true, Bool.not_false, Bool.and_eq_true, Bool.or_eq_true, Bool.or_eq_false_iff, beq_iff_eq, beq_eq_false_iff_ne, ne_eq, Int.not_lt, Int.not_le, Decidable.not_not] at hg69
                    refine m_take_yes (j := 6) (t := 69) 7 false rfl rfl rfl rfl rfl (by kernel_rfl) (by kernel_rfl) (by kernel_rfl) (fun _ _ _ _ h => h) (v_move rfl) rfl rfl ?_
                    refine m_take_yes (j := 6) (t := 69) 8 false rfl rfl rfl rfl rfl (by kernel_rfl) (by kernel_rfl) (by kernel_rfl) (fun _ _ _ _ h => h) (v_move rfl) rfl rfl ?_
                    refine m_take_yes (j := 6) (t := 69) 9 false rfl rfl rfl rfl rfl (by kernel_rfl) (by kernel_rfl) (by kernel_rfl) (fun _ _ _ _ h => h) (v_indexAddr ty25 ty37 rfl rfl (by first | rfl | assumption) (by first | rfl | exact (rfl : (0 : Int) = ((0 : Nat) : Int)) | exact (Int.toNat_of_nonneg (by omega)).symm) (map_get hf) rfl) rfl rfl ?_
                    refine m_take_yes (j := 6) (t := 69) 10 false rfl rfl rfl rfl rfl (by kernel_rfl) (by kernel_rfl) (by kernel_rfl) (fun _ _ _ _ h => h) (by first | exact v_fieldAddr ty37 fo37_1 ty3 rfl | exact v_fieldAddr_box ty37 fo37_1 ty3 rfl) rfl rfl ?_
                    refine m_take_yes (j := 6) (t := 69) 11 true rfl rfl rfl rfl rfl (by kernel_rfl) (by kernel_rfl) (by kernel_rfl) (fun _ _ _ _ h => h) (by first | exact v_load ty3 rfl rfl (by first | rfl | assumption) (map_get hf) rfl | exact v_load_box ty3 rfl rfl (by assumption) rfl) rfl rfl ?_
                    refine m_take_yes (j := 6) (t := 69) 12 false rfl rfl rfl rfl rfl (by kernel_rfl) (by kernel_rfl) (by kernel_rfl) (fun _ _ _ _ h => h) (v_move rfl) rfl rfl ?_
                    refine m_take_yes (j := 6) (t := 69) 13 false rfl rfl rfl rfl rfl (by kernel_rfl) (by kernel_rfl) (by kernel_rfl) (fun _ _ _ _ h => h) (v_move rfl) rfl rfl ?_
                    refine m_take_yes (j := 6) (t := 69) 14 false rfl rfl rfl rfl rfl (by kernel_rfl) (by kernel_rfl) (by kernel_rfl) (fun _ _ _ _ h => h) (v_indexAddr ty25 ty37 rfl rfl (by first | rfl | assumption) (by first | rfl | exact (rfl : (0 : Int) = ((0 : Nat) : Int)) | exact (Int.toNat_of_nonneg (by omega)).symm) (map_get he) rfl) rfl rfl ?_
                    refine m_take_yes (j := 6) (t := 69) 15 false rfl rfl rfl rfl rfl (by kernel_rfl) (by kernel_rfl) (by kernel_rfl) (fun _ _ _ _ h => h) (by first | exact v_fieldAddr ty37 fo37_1 ty3 rfl | exact v_fieldAddr_box ty37 fo37_1 ty3 rfl) rfl rfl ?_
                    refine m_take_yes (j := 6) (t := 69) 16 true rfl rfl rfl rfl rfl (by kernel_rfl) (by kernel_rfl) (by kernel_rfl) (fun _ _ _ _ h => h) (by first | exact v_load ty3 rfl rfl (by first | rfl | assumption) (map_get he) rfl | exact v_load_box ty3 rfl rfl (by assumption) rfl) rfl rfl ?_
                    refine m_take_yes (j := 6) (t := 69) 17 false rfl rfl rfl rfl rfl (by kernel_rfl) (by kernel_rfl) (by kernel_rfl) (fun _ _ _ _ h => h) (v_eql rfl rfl) rfl rfl ?_
                    refine m_take 18 false rfl rfl (by kernel_rfl) (by kernel_rfl) (by kernel_rfl) (fun _ _ _ _ h => h) (v_pick_t rfl rfl) rfl rfl ?_
                    refine m_done (by kernel_rfl) ?_
                    refine g_next hK26 ?_
                    first | refine g_keep [7, 9, 10, 11, 81] [] [] (keep_cons rfl (keep_cons rfl (keep_cons rfl (keep_cons rfl (keep_cons rfl keep_nil))))) lkeep_nil keep_nil rfl ?_ | refine g_keep [7, 9, 10, 11, 81] [] [] rfl rfl rfl rfl ?_
                    refine g_cond rfl (fun hc81 => ?_) (fun hc81 => ?_)
                    · try simp only [decide_eq_true_eq, decide_eq_false_iff_not, Bool.not_eq_true', Bool.not_eq_false', Bool.not_eq_eq_eq_not, Bool.not_true, Bool.not_false, Bool.and_eq_true, Bool.or_eq_true, Bool.or_eq_false_iff, beq_iff_eq, beq_eq_false_iff_ne, ne_eq, Int.not_lt, Int.not_le, Decidable.not_not] at hc81
                      refine g_region ?_
                      refine g_step rfl (s_val (v_assign rfl) rfl rfl ?_)
                      refine g_nil ?_
                      refine g_block_normal ?_
                      refine g_next hK25 ?_
                      refine g_region ?_
                      refine g_step rfl (s_val (v_move rfl) rfl rfl ?_)
                      refine g_step rfl (s_val (v_add rfl rfl (by omega)) rfl rfl ?_)
                      refine g_step rfl (s_val (v_assign rfl) rfl rfl ?_)
                      refine g_nil ?_
                      first | refine g_keep [7, 9, 10, 11] [] [] (keep_cons rfl (keep_cons rfl (keep_cons rfl (keep_cons rfl keep_nil)))) lkeep_nil keep_nil rfl ?_ | refine g_keep [7, 9, 10, 11] [] [] rfl rfl rfl rfl ?_
                      first | exact g_round _ (by omega) ⟨j + 1, true, by omega, rfl, rfl, rfl, rfl, rfl, by rw [any_snoc hf, decide_eq_true (by omega), Bool.or_true]⟩ | exact g_round _ (by omega) ⟨j + 1, u, by omega, rfl, rfl, rfl, rfl, rfl, by rw [any_snoc hf, decide_eq_false (by omega), Bool.or_false]; exact hu⟩
                    · try simp only [decide_eq_true_eq, decide_eq_false_iff_not, Bool.not_eq_true', Bool.not_eq_false', Bool.not_eq_eq_eq_not, Bool.not_true, Bool.not_false, Bool.and_eq_true, Bool.or_eq_true, Bool.or_eq_false_iff, beq_iff_eq, beq_eq_false_iff_ne, ne_eq, Int.not_lt, Int.not_le, Decidable.not_not] at hc81
                      refine g_skip ?_
                      refine g_block_normal ?_
                      refine g_next hK25 ?_
                      refine g_region ?_
                      refine g_step rfl (s_val (v_move rfl) rfl rfl ?_)
                      refine g_step rfl (s_val (v_add rfl rfl (by omega)) rfl rfl ?_)
                      refine g_step rfl (s_val (v_assign rfl) rfl rfl ?_)
                      refine g_nil ?_
                      first | refine g_keep [7, 9, 10, 11] [] [] (keep_cons rfl (keep_cons rfl (keep_cons rfl (keep_cons rfl keep_nil)))) lkeep_nil keep_nil rfl ?_ | refine g_keep [7, 9, 10, 11] [] [] rfl rfl rfl rfl ?_
                      first | exact g_round _ (by omega) ⟨j + 1, true, by omega, rfl, rfl, rfl, rfl, rfl, by rw [any_snoc hf, decide_eq_true (by omega), Bool.or_true]⟩ | exact g_round _ (by omega) ⟨j + 1, u, by omega, rfl, rfl, rfl, rfl, rfl, by rw [any_snoc hf, decide_eq_false (by omega), Bool.or_false]; exact hu⟩
                  · try simp only [decide_eq_true_eq, decide_eq_false_iff_not, Bool.not_eq_true', Bool.not_eq_false', Bool.not_eq_eq_eq_not, Bool.not_true, Bool.not_false, Bool.and_eq_true, Bool.or_eq_true, Bool.or_eq_false_iff, beq_iff_eq, beq_eq_false_iff_ne, ne_eq, Int.not_lt, Int.not_le, Decidable.not_not] at hg69
                    refine m_take_no (j := 6) (t := 69) 7 rfl rfl rfl rfl rfl rfl (by kernel_rfl) (by kernel_rfl) (by kernel_rfl) (fun _ _ _ _ h => h) rfl rfl ?_
                    refine m_take_no (j := 6) (t := 69) 8 rfl rfl rfl rfl rfl rfl (by kernel_rfl) (by kernel_rfl) (by kernel_rfl) (fun _ _ _ _ h => h) rfl rfl ?_
                    refine m_take_no (j := 6) (t := 69) 9 rfl rfl rfl rfl rfl rfl (by kernel_rfl) (by kernel_rfl) (by kernel_rfl) (fun _ _ _ _ h => h) rfl rfl ?_
                    refine m_take_no (j := 6) (t := 69) 10 rfl rfl rfl rfl rfl rfl (by kernel_rfl) (by kernel_rfl) (by kernel_rfl) (fun _ _ _ _ h => h) rfl rfl ?_
                    refine m_take_no (j := 6) (t := 69) 11 rfl rfl rfl rfl rfl rfl (by kernel_rfl) (by kernel_rfl) (by kernel_rfl) (fun _ _ _ _ h => h) rfl rfl ?_
                    refine m_take_no (j := 6) (t := 69) 12 rfl rfl rfl rfl rfl rfl (by kernel_rfl) (by kernel_rfl) (by kernel_rfl) (fun _ _ _ _ h => h) rfl rfl ?_
                    refine m_take_no (j := 6) (t := 69) 13 rfl rfl rfl rfl rfl rfl (by kernel_rfl) (by kernel_rfl) (by kernel_rfl) (fun _ _ _ _ h => h) rfl rfl ?_
                    refine m_take_no (j := 6) (t := 69) 14 rfl rfl rfl rfl rfl rfl (by kernel_rfl) (by kernel_rfl) (by kernel_rfl) (fun _ _ _ _ h => h) rfl rfl ?_
                    refine m_take_no (j := 6) (t := 69) 15 rfl rfl rfl rfl rfl rfl (by kernel_rfl) (by kernel_rfl) (by kernel_rfl) (fun _ _ _ _ h => h) rfl rfl ?_
                    refine m_take_no (j := 6) (t := 69) 16 rfl rfl rfl rfl rfl rfl (by kernel_rfl) (by kernel_rfl) (by kernel_rfl) (fun _ _ _ _ h => h) rfl rfl ?_
                    refine m_take_no (j := 6) (t := 69) 17 rfl rfl rfl rfl rfl rfl (by kernel_rfl) (by kernel_rfl) (by kernel_rfl) (fun _ _ _ _ h => h) rfl rfl ?_
                    refine m_take 18 false rfl rfl (by kernel_rfl) (by kernel_rfl) (by kernel_rfl) (fun _ _ _ _ h => h) (v_pick_f rfl rfl) rfl rfl ?_
                    refine m_done (by kernel_rfl) ?_
                    refine g_next hK26 ?_
                    first | refine g_keep [7, 9, 10, 11, 81] [] [] (keep_cons rfl (keep_cons rfl (keep_cons rfl (keep_cons rfl (keep_cons rfl keep_nil))))) lkeep_nil keep_nil rfl ?_ | refine g_keep [7, 9, 10, 11, 81] [] [] rfl rfl rfl rfl ?_
                    refine g_cond rfl (fun h => by cases h) (fun _ => ?_)
                    refine g_skip ?_
                    refine g_block_normal ?_
                    refine g_next hK25 ?_
                    refine g_region ?_
                    refine g_step rfl (s_val (v_move rfl) rfl rfl ?_)
                    refine g_step rfl (s_val (v_add rfl rfl (by omega)) rfl rfl ?_)
                    refine g_step rfl (s_val (v_assign rfl) rfl rfl ?_)
                    refine g_nil ?_
                    first | refine g_keep [7, 9, 10, 11] [] [] (keep_cons rfl (keep_cons rfl (keep_cons rfl (keep_cons rfl keep_nil)))) lkeep_nil keep_nil rfl ?_ | refine g_keep [7, 9, 10, 11] [] [] rfl rfl rfl rfl ?_
                    first | exact g_round _ (by omega) ⟨j + 1, true, by omega, rfl, rfl, rfl, rfl, rfl, by rw [any_snoc hf, decide_eq_true (by omega), Bool.or_true]⟩ | exact g_round _ (by omega) ⟨j + 1, u, by omega, rfl, rfl, rfl, rfl, rfl, by rw [any_snoc hf, decide_eq_false (by omega), Bool.or_false]; exact hu⟩
                · try simp only [decide_eq_true_eq, decide_eq_false_iff_not, Bool.not_eq_true', Bool.not_eq_false', Bool.not_eq_eq_eq_not, Bool.not_true, Bool.not_false, Bool.and_eq_true, Bool.or_eq_true, Bool.or_eq_false_iff, beq_iff_eq, beq_eq_false_iff_ne, ne_eq, Int.not_lt, Int.not_le, Decidable.not_not] at hc60
                  obtain rfl : j = (evL a (mergeL [a, b].flatten)).length := by omega
                  rw [List.take_length] at hu
                  refine g_exit ?_
                  refine g_then_exit ?_
                  refine g_then_exit ?_
                  refine g_block_same ?_
                  refine g_next hK21 ?_
                  refine g_seq (fun K27 hK27 => ?_)
                  refine g_region ?_
                  refine g_step rfl (s_val (v_move rfl) rfl rfl ?_)
                  refine g_step rfl (s_val (v_not rfl) rfl rfl ?_)
                  refine g_nil ?_
                  refine g_next hK27 ?_
                  refine g_cond rfl (fun hc83 => ?_) (fun hc83 => ?_)
                  · exfalso; (try simp only [decide_eq_true_eq, decide_eq_false_iff_not, Bool.not_eq_true', Bool.not_eq_false', Bool.not_eq_eq_eq_not, Bool.not_true, Bool.not_false, Bool.and_eq_true, Bool.or_eq_true, Bool.or_eq_false_iff, beq_iff_eq, beq_eq_false_iff_ne, ne_eq, Int.not_lt, Int.not_le, Decidable.not_not] at hc83); rw [hu] at hc83; have h9 := List.any_eq_false.1 hc83 _ (hge5 (by omega)); simp at h9
                  · try simp only [decide_eq_true_eq, decide_eq_false_iff_not, Bool.not_eq_true', Bool.not_eq_false', Bool.not_eq_eq_eq_not, Bool.not_true, Bool.not_false, Bool.and_eq_true, Bool.or_eq_true, Bool.or_eq_false_iff, beq_iff_eq, beq_eq_false_iff_ne, ne_eq, Int.not_lt, Int.not_le, Decidable.not_not] at hc83
                    refine g_skip ?_
                    refine g_block_normal ?_
                    refine g_next hK16 ?_
                    refine g_region ?_
                    refine g_step rfl (s_val (v_move rfl) rfl rfl ?_)
                    refine g_step rfl (s_val (v_add rfl rfl (by omega)) rfl rfl ?_)
                    refine g_step rfl (s_val (v_assign rfl) rfl rfl ?_)
                    refine g_nil ?_
                    first | refine g_keep [7, 9] [] [] (keep_cons rfl (keep_cons rfl keep_nil)) lkeep_nil keep_nil rfl ?_ | refine g_keep [7, 9] [] [] rfl rfl rfl rfl ?_
                    exact g_round _ (by omega) ⟨i + 1, by omega, rfl, rfl, rfl, rfl, rfl, trivial⟩
              · try simp only [decide_eq_true_eq, decide_eq_false_iff_not, Bool.not_eq_true', Bool.not_eq_false', Bool.not_eq_eq_eq_not, Bool.not_true, Bool.not_false, Bool.and_eq_true, Bool.or_eq_true, Bool.or_eq_false_iff, beq_iff_eq, beq_eq_false_iff_ne, ne_eq, Int.not_lt, Int.not_le, Decidable.not_not] at hc56
                refine g_skip ?_
                refine g_block_normal ?_
                refine g_next hK16 ?_
                refine g_region ?_
                refine g_step rfl (s_val (v_move rfl) rfl rfl ?_)
                refine g_step rfl (s_val (v_add rfl rfl (by omega)) rfl rfl ?_)
                refine g_step rfl (s_val (v_assign rfl) rfl rfl ?_)
                refine g_nil ?_
                first | refine g_keep [7, 9] [] [] (keep_cons rfl (keep_cons rfl keep_nil)) lkeep_nil keep_nil rfl ?_ | refine g_keep [7, 9] [] [] rfl rfl rfl rfl ?_
                exact g_round _ (by omega) ⟨i + 1, by omega, rfl, rfl, rfl, rfl, rfl, trivial⟩
          · try simp only [decide_eq_true_eq, decide_eq_false_iff_not, Bool.not_eq_true', Bool.not_eq_false', Bool.not_eq_eq_eq_not, Bool.not_true, Bool.not_false, Bool.and_eq_true, Bool.or_eq_true, Bool.or_eq_false_iff, beq_iff_eq, beq_eq_false_iff_ne, ne_eq, Int.not_lt, Int.not_le, Decidable.not_not] at hc42
            obtain rfl : i = (evL a (mergeL [a, b].flatten)).length := by omega
            refine g_exit ?_
            refine g_then_exit ?_
            refine g_then_exit ?_
            refine g_block_same ?_
            refine g_next hK12 ?_
            refine g_seq (fun K28 hK28 => ?_)
            refine g_region ?_
            refine g_step rfl (s_callp rfl rfl rfl (awake44_ok _) ?_)
            rintro _ rfl
            refine g_step rfl (s_val (v_assign rfl) rfl rfl ?_)
            refine g_nil ?_
            refine g_next hK28 ?_
            refine g_ret ?_
            refine g_end1 (.inl rfl) Try.results5 (.tmp rfl) [] (ASub.refl _) (AHeap.sub_refl _) (fun p hp => by cases hp) ⟨rfl, ?_⟩
            rfl

end Go.Proofs.Ytgipbhfblmblcaa

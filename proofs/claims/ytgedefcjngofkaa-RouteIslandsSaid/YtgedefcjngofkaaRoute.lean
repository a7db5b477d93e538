import Derived.Test.YtgedefcjngofkaaRec2
import Derived.Test.YtgedefcjngofkaaPRoute3
set_option maxHeartbeats 8000000
set_option linter.unusedSimpArgs false
set_option linter.unusedVariables false
set_option maxRecDepth 100000
namespace Go.Proofs.Ytgedefcjngofkaa
open Go Go.Proofs.Ytgedefcjngofkaa.AM
theorem rcounts_ok (r : Rc) (G : AHeap) : PCalls Try.prog 81 [encR r] G (fun v => v = .bool (cnt r)) := by
  refine LCalls.intro 11 fi81 rfl Try.ntmps81 rfl (fun _ h => h.elim) (fun H hH w0 hw0 => ?_)
  refine g_seq (fun K0 hK0 => ?_)
  refine g_region ?_
  refine g_step rfl (s_box rfl rfl rfl rfl ?_)
  refine g_step rfl (s_val (v_assign rfl) rfl rfl ?_)
  refine g_nil ?_
  refine g_next hK0 ?_
  refine g_seq (fun K1 hK1 => ?_)
  refine g_region ?_
  refine g_step rfl (s_fieldAddr ty32 fo32_2 ty3 rfl rfl ?_)
  refine g_step rfl (s_val (v_loadl ty3 rfl rfl rfl rfl) rfl rfl ?_)
  refine g_step rfl (s_val (v_neq rfl rfl) rfl rfl ?_)
  refine g_step rfl (s_val (v_move rfl) rfl rfl ?_)
  refine g_split 6 rfl (fun hg6 => ?_) (fun hg6 => ?_)
  · try simp only [decide_eq_true_eq, decide_eq_false_iff_not, Bool.not_eq_true', Bool.not_eq_false', Bool.not_eq_eq_eq_not, Bool.not_true, Bool.not_false, Bool.and_eq_true, Bool.or_eq_true, Bool.or_eq_false_iff, beq_iff_eq, beq_eq_false_iff_ne, ne_eq, Int.not_lt, Int.not_le, Decidable.not_not] at hg6
    refine g_step_yes (j := 3) (t := 6) rfl rfl rfl rfl (s_fieldAddr ty32 fo32_2 ty3 rfl rfl ?_)
    refine g_step_yes (j := 3) (t := 6) rfl rfl rfl rfl (s_val (v_loadl ty3 rfl rfl rfl rfl) rfl rfl ?_)
    refine g_step_yes (j := 3) (t := 6) rfl rfl rfl rfl (s_val (v_neq rfl rfl) rfl rfl ?_)
    refine g_step rfl (s_val (v_pick_t rfl rfl) rfl rfl ?_)
    refine g_step rfl (s_val (v_assign rfl) rfl rfl ?_)
    refine g_nil ?_
    refine g_next hK1 ?_
    refine g_ret ?_
    refine g_end1 (.inl rfl) Try.results81 (.tmp rfl) [] (ASub.refl _) (AHeap.sub_refl _) (fun p hp => by cases hp) ⟨rfl, ?_⟩
    first | (simp_all [cnt]; done) | (simp_all [cnt]; rfl)
  · try simp only [decide_eq_true_eq, decide_eq_false_iff_not, Bool.not_eq_true', Bool.not_eq_false', Bool.not_eq_eq_eq_not, Bool.not_true, Bool.not_false, Bool.and_eq_true, Bool.or_eq_true, Bool.or_eq_false_iff, beq_iff_eq, beq_eq_false_iff_ne, ne_eq, Int.not_lt, Int.not_le, Decidable.not_not] at hg6
    refine g_step_no (j := 3) (t := 6) rfl rfl rfl rfl rfl rfl rfl ?_
    refine g_step_no (j := 3) (t := 6) rfl rfl rfl rfl rfl rfl rfl ?_
    refine g_step_no (j := 3) (t := 6) rfl rfl rfl rfl rfl rfl rfl ?_
    refine g_step rfl (s_val (v_pick_f rfl rfl) rfl rfl ?_)
    refine g_step rfl (s_val (v_assign rfl) rfl rfl ?_)
    refine g_nil ?_
    refine g_next hK1 ?_
    refine g_ret ?_
    refine g_end1 (.inl rfl) Try.results81 (.tmp rfl) [] (ASub.refl _) (AHeap.sub_refl _) (fun p hp => by cases hp) ⟨rfl, ?_⟩
    first | (simp_all [cnt]; done) | (simp_all [cnt]; rfl)

theorem link_ok (a b : Rc) (G : AHeap) : PCalls Try.prog 83 [encR a, encR b] G (fun v => v = .int .i64 (lnk a b)) := by
  refine LCalls.intro 25 fi83 rfl Try.ntmps83 rfl (fun _ h => h.elim) (fun H hH w0 hw0 => ?_)
  refine g_seq (fun K0 hK0 => ?_)
  refine g_region ?_
  refine g_step rfl (s_box rfl rfl rfl rfl ?_)
  refine g_step rfl (s_box rfl rfl rfl rfl ?_)
  refine g_step rfl (s_val (v_assign rfl) rfl rfl ?_)
  refine g_nil ?_
  refine g_next hK0 ?_
  refine g_seq (fun K1 hK1 => ?_)
  refine g_seq (fun K2 hK2 => ?_)
  refine g_region ?_
  refine g_step rfl (s_val (by first | exact v_loadl_all ty32 rfl rfl rfl rfl rfl | exact v_loadl_part (cs := [_, _, _, _, _, _, _]) ty32 rfl rfl rfl rfl rfl rfl) rfl rfl ?_)
  refine g_step rfl (s_callp rfl rfl rfl (rcounts_ok _ _) ?_)
  rintro _ rfl
  refine g_step rfl (s_val (v_not rfl) rfl rfl ?_)
  refine g_step rfl (s_val (v_move rfl) rfl rfl ?_)
  refine g_split 8 rfl (fun hg8 => ?_) (fun hg8 => ?_)
  · try simp only [decide_eq_true_eq, decide_eq_false_iff_not, Bool.not_eq_true', Bool.not_eq_false', Bool.not_eq_eq_eq_not, Bool.not_true, Bool.not_false, Bool.and_eq_true, Bool.or_eq_true, Bool.or_eq_false_iff, beq_iff_eq, beq_eq_false_iff_ne, ne_eq, Int.not_lt, Int.not_le, Decidable.not_not] at hg8
    refine g_step_no (j := 3) (t := 8) rfl rfl rfl rfl rfl rfl rfl ?_
    refine g_step_no (j := 3) (t := 8) rfl rfl rfl rfl rfl rfl rfl ?_
    refine g_step_no (j := 3) (t := 8) rfl rfl rfl rfl rfl rfl rfl ?_
    refine g_step rfl (s_val (v_pick_t rfl rfl) rfl rfl ?_)
    refine g_step rfl (s_val (v_move rfl) rfl rfl ?_)
    refine g_step_no (j := 8) (t := 13) rfl rfl rfl rfl rfl rfl rfl ?_
    refine g_step_no (j := 8) (t := 13) rfl rfl rfl rfl rfl rfl rfl ?_
    refine g_step_no (j := 8) (t := 13) rfl rfl rfl rfl rfl rfl rfl ?_
    refine g_step_no (j := 8) (t := 13) rfl rfl rfl rfl rfl rfl rfl ?_
    refine g_step_no (j := 8) (t := 13) rfl rfl rfl rfl rfl rfl rfl ?_
    refine g_step rfl (s_val (v_pick_t rfl rfl) rfl rfl ?_)
    refine g_nil ?_
    refine g_next hK2 ?_
    refine g_cond rfl (fun _ => ?_) (fun h => by cases h)
    refine g_seq (fun K3 hK3 => ?_)
    refine g_region ?_
    refine g_step rfl (s_val (v_assign rfl) rfl rfl ?_)
    refine g_nil ?_
    refine g_next hK3 ?_
    refine g_ret ?_
    refine g_then_ret ?_
    refine g_end1 (.inl rfl) Try.results83 (.tmp rfl) [] (ASub.refl _) (AHeap.sub_refl _) (fun p hp => by cases hp) ⟨rfl, ?_⟩
    first | (rw [lnk, if_neg (by simp_all)]; done) | (rw [lnk, if_neg (by simp_all)]; rfl)
  · try simp only [decide_eq_true_eq, decide_eq_false_iff_not, Bool.not_eq_true', Bool.not_eq_false', Bool.not_eq_eq_eq_not, Bool.not_true, Bool.not_false, Bool.and_eq_true, Bool.or_eq_true, Bool.or_eq_false_iff, beq_iff_eq, beq_eq_false_iff_ne, ne_eq, Int.not_lt, Int.not_le, Decidable.not_not] at hg8
    refine g_step_yes (j := 3) (t := 8) rfl rfl rfl rfl (s_val (by first | exact v_loadl_all ty32 rfl rfl rfl rfl rfl | exact v_loadl_part (cs := [_, _, _, _, _, _, _]) ty32 rfl rfl rfl rfl rfl rfl) rfl rfl ?_)
    refine g_step_yes (j := 3) (t := 8) rfl rfl rfl rfl (s_callp rfl rfl rfl (rcounts_ok _ _) ?_)
    rintro _ rfl
    refine g_step_yes (j := 3) (t := 8) rfl rfl rfl rfl (s_val (v_not rfl) rfl rfl ?_)
    refine g_step rfl (s_val (v_pick_f rfl rfl) rfl rfl ?_)
    refine g_step rfl (s_val (v_move rfl) rfl rfl ?_)
    refine g_split 13 rfl (fun hg13 => ?_) (fun hg13 => ?_)
    · try simp only [decide_eq_true_eq, decide_eq_false_iff_not, Bool.not_eq_true', Bool.not_eq_false', Bool.not_eq_eq_eq_not, Bool.not_true, Bool.not_false, Bool.and_eq_true, Bool.or_eq_true, Bool.or_eq_false_iff, beq_iff_eq, beq_eq_false_iff_ne, ne_eq, Int.not_lt, Int.not_le, Decidable.not_not] at hg13
      refine g_step_no (j := 8) (t := 13) rfl rfl rfl rfl rfl rfl rfl ?_
      refine g_step_no (j := 8) (t := 13) rfl rfl rfl rfl rfl rfl rfl ?_
      refine g_step_no (j := 8) (t := 13) rfl rfl rfl rfl rfl rfl rfl ?_
      refine g_step_no (j := 8) (t := 13) rfl rfl rfl rfl rfl rfl rfl ?_
      refine g_step_no (j := 8) (t := 13) rfl rfl rfl rfl rfl rfl rfl ?_
      refine g_step rfl (s_val (v_pick_t rfl rfl) rfl rfl ?_)
      refine g_nil ?_
      refine g_next hK2 ?_
      refine g_cond rfl (fun _ => ?_) (fun h => by cases h)
      refine g_seq (fun K4 hK4 => ?_)
      refine g_region ?_
      refine g_step rfl (s_val (v_assign rfl) rfl rfl ?_)
      refine g_nil ?_
      refine g_next hK4 ?_
      refine g_ret ?_
      refine g_then_ret ?_
      refine g_end1 (.inl rfl) Try.results83 (.tmp rfl) [] (ASub.refl _) (AHeap.sub_refl _) (fun p hp => by cases hp) ⟨rfl, ?_⟩
      first | (rw [lnk, if_neg (by simp_all)]; done) | (rw [lnk, if_neg (by simp_all)]; rfl)
    · try simp only [decide_eq_true_eq, decide_eq_false_iff_not, Bool.not_eq_true', Bool.not_eq_false', Bool.not_eq_eq_eq_not, Bool.not_true, Bool.not_false, Bool.and_eq_true, Bool.or_eq_true, Bool.or_eq_false_iff, beq_iff_eq, beq_eq_false_iff_ne, ne_eq, Int.not_lt, Int.not_le, Decidable.not_not] at hg13
      refine g_step_yes (j := 8) (t := 13) rfl rfl rfl rfl (s_fieldAddr ty32 fo32_0 ty3 rfl rfl ?_)
      refine g_step_yes (j := 8) (t := 13) rfl rfl rfl rfl (s_val (v_loadl ty3 rfl rfl rfl rfl) rfl rfl ?_)
      refine g_step_yes (j := 8) (t := 13) rfl rfl rfl rfl (s_fieldAddr ty32 fo32_0 ty3 rfl rfl ?_)
      refine g_step_yes (j := 8) (t := 13) rfl rfl rfl rfl (s_val (v_loadl ty3 rfl rfl rfl rfl) rfl rfl ?_)
      refine g_step_yes (j := 8) (t := 13) rfl rfl rfl rfl (s_val (v_eql rfl rfl) rfl rfl ?_)
      refine g_step rfl (s_val (v_pick_f rfl rfl) rfl rfl ?_)
      refine g_nil ?_
      refine g_next hK2 ?_
      refine g_cond rfl (fun hc19 => ?_) (fun hc19 => ?_)
      · try simp only [decide_eq_true_eq, decide_eq_false_iff_not, Bool.not_eq_true', Bool.not_eq_false', Bool.not_eq_eq_eq_not, Bool.not_true, Bool.not_false, Bool.and_eq_true, Bool.or_eq_true, Bool.or_eq_false_iff, beq_iff_eq, beq_eq_false_iff_ne, ne_eq, Int.not_lt, Int.not_le, Decidable.not_not] at hc19
        refine g_seq (fun K5 hK5 => ?_)
        refine g_region ?_
        refine g_step rfl (s_val (v_assign rfl) rfl rfl ?_)
        refine g_nil ?_
        refine g_next hK5 ?_
        refine g_ret ?_
        refine g_then_ret ?_
        refine g_end1 (.inl rfl) Try.results83 (.tmp rfl) [] (ASub.refl _) (AHeap.sub_refl _) (fun p hp => by cases hp) ⟨rfl, ?_⟩
        first | (rw [lnk, if_neg (by simp_all)]; done) | (rw [lnk, if_neg (by simp_all)]; rfl)
      · try simp only [decide_eq_true_eq, decide_eq_false_iff_not, Bool.not_eq_true', Bool.not_eq_false', Bool.not_eq_eq_eq_not, Bool.not_true, Bool.not_false, Bool.and_eq_true, Bool.or_eq_true, Bool.or_eq_false_iff, beq_iff_eq, beq_eq_false_iff_ne, ne_eq, Int.not_lt, Int.not_le, Decidable.not_not] at hc19
        refine g_skip ?_
        refine g_next hK1 ?_
        refine g_seq (fun K6 hK6 => ?_)
        refine g_region ?_
        refine g_step rfl (s_fieldAddr ty32 fo32_3 ty24 rfl rfl ?_)
        refine g_step rfl (s_val (v_loadl_part (cs := [_, _]) ty24 rfl rfl rfl rfl rfl rfl) rfl rfl ?_)
        refine g_step rfl (s_fieldAddr ty32 fo32_3 ty24 rfl rfl ?_)
        refine g_step rfl (s_val (v_loadl_part (cs := [_, _]) ty24 rfl rfl rfl rfl rfl rfl) rfl rfl ?_)
        refine g_step rfl (s_callp rfl rfl rfl (spBest_ok a.sp b.sp _) ?_)
        rintro _ rfl
        refine g_step rfl (s_val (v_assign rfl) rfl rfl ?_)
        refine g_nil ?_
        refine g_next hK6 ?_
        refine g_ret ?_
        refine g_end1 (.inl rfl) Try.results83 (.tmp rfl) [] (ASub.refl _) (AHeap.sub_refl _) (fun p hp => by cases hp) ⟨rfl, ?_⟩
        first | (rw [lnk, if_pos (by simp_all)]; done) | (rw [lnk, if_pos (by simp_all)]; rfl)

theorem link47_ok (a b : Rc) (G : AHeap) : PCalls Try.prog 48 [encR a, encR b] G (fun v => v = .int .i64 (lnk a b)) := by
  refine LCalls.intro 35 fi48 rfl Try.ntmps48 rfl (fun _ h => h.elim) (fun H hH w0 hw0 => ?_)
  refine g_seq (fun K0 hK0 => ?_)
  refine g_region ?_
  refine g_step rfl (s_box rfl rfl rfl rfl ?_)
  refine g_step rfl (s_box rfl rfl rfl rfl ?_)
  refine g_step rfl (s_val (v_assign rfl) rfl rfl ?_)
  refine g_nil ?_
  refine g_next hK0 ?_
  refine g_seq (fun K1 hK1 => ?_)
  refine g_seq (fun K2 hK2 => ?_)
  refine g_region ?_
  refine g_step rfl (s_fieldAddr ty32 fo32_0 ty3 rfl rfl ?_)
  refine g_step rfl (s_val (v_loadl ty3 rfl rfl rfl rfl) rfl rfl ?_)
  refine g_step rfl (s_fieldAddr ty32 fo32_0 ty3 rfl rfl ?_)
  refine g_step rfl (s_val (v_loadl ty3 rfl rfl rfl rfl) rfl rfl ?_)
  refine g_step rfl (s_val (v_eql rfl rfl) rfl rfl ?_)
  refine g_step rfl (s_val (v_move rfl) rfl rfl ?_)
  refine g_split 10 rfl (fun hg10 => ?_) (fun hg10 => ?_)
  · try simp only [decide_eq_true_eq, decide_eq_false_iff_not, Bool.not_eq_true', Bool.not_eq_false', Bool.not_eq_eq_eq_not, Bool.not_true, Bool.not_false, Bool.and_eq_true, Bool.or_eq_true, Bool.or_eq_false_iff, beq_iff_eq, beq_eq_false_iff_ne, ne_eq, Int.not_lt, Int.not_le, Decidable.not_not] at hg10
    refine g_step_no (j := 5) (t := 10) rfl rfl rfl rfl rfl rfl rfl ?_
    refine g_step_no (j := 5) (t := 10) rfl rfl rfl rfl rfl rfl rfl ?_
    refine g_step_no (j := 5) (t := 10) rfl rfl rfl rfl rfl rfl rfl ?_
    refine g_step rfl (s_val (v_pick_t rfl rfl) rfl rfl ?_)
    refine g_step rfl (s_val (v_move rfl) rfl rfl ?_)
    refine g_step_no (j := 10) (t := 15) rfl rfl rfl rfl rfl rfl rfl ?_
    refine g_step_no (j := 10) (t := 15) rfl rfl rfl rfl rfl rfl rfl ?_
    refine g_step_no (j := 10) (t := 15) rfl rfl rfl rfl rfl rfl rfl ?_
    refine g_step rfl (s_val (v_pick_t rfl rfl) rfl rfl ?_)
    refine g_step rfl (s_val (v_move rfl) rfl rfl ?_)
    refine g_step_no (j := 15) (t := 20) rfl rfl rfl rfl rfl rfl rfl ?_
    refine g_step_no (j := 15) (t := 20) rfl rfl rfl rfl rfl rfl rfl ?_
    refine g_step_no (j := 15) (t := 20) rfl rfl rfl rfl rfl rfl rfl ?_
    refine g_step rfl (s_val (v_pick_t rfl rfl) rfl rfl ?_)
    refine g_step rfl (s_val (v_move rfl) rfl rfl ?_)
    refine g_step_no (j := 20) (t := 25) rfl rfl rfl rfl rfl rfl rfl ?_
    refine g_step_no (j := 20) (t := 25) rfl rfl rfl rfl rfl rfl rfl ?_
    refine g_step_no (j := 20) (t := 25) rfl rfl rfl rfl rfl rfl rfl ?_
    refine g_step rfl (s_val (v_pick_t rfl rfl) rfl rfl ?_)
    refine g_nil ?_
    refine g_next hK2 ?_
    first | refine g_keep [29] [2, 3] [2, 3] (keep_cons rfl keep_nil) (lkeep_cons rfl (lkeep_cons rfl lkeep_nil)) (keep_cons rfl (keep_cons rfl keep_nil)) rfl ?_ | refine g_keep [29] [2, 3] [2, 3] rfl rfl rfl rfl ?_
    refine g_cond rfl (fun _ => ?_) (fun h => by cases h)
    refine g_seq (fun K3 hK3 => ?_)
    refine g_region ?_
    refine g_step rfl (s_val (v_assign rfl) rfl rfl ?_)
    refine g_nil ?_
    refine g_next hK3 ?_
    refine g_ret ?_
    refine g_then_ret ?_
    refine g_end1 (.inl rfl) Try.results48 (.tmp rfl) [] (ASub.refl _) (AHeap.sub_refl _) (fun p hp => by cases hp) ⟨rfl, ?_⟩
    first | (rw [lnk, if_neg (by simp_all [cnt])]; done) | (rw [lnk, if_neg (by simp_all [cnt])]; rfl)
  · try simp only [decide_eq_true_eq, decide_eq_false_iff_not, Bool.not_eq_true', Bool.not_eq_false', Bool.not_eq_eq_eq_not, Bool.not_true, Bool.not_false, Bool.and_eq_true, Bool.or_eq_true, Bool.or_eq_false_iff, beq_iff_eq, beq_eq_false_iff_ne, ne_eq, Int.not_lt, Int.not_le, Decidable.not_not] at hg10
    refine g_step_yes (j := 5) (t := 10) rfl rfl rfl rfl (s_fieldAddr ty32 fo32_2 ty3 rfl rfl ?_)
    refine g_step_yes (j := 5) (t := 10) rfl rfl rfl rfl (s_val (v_loadl ty3 rfl rfl rfl rfl) rfl rfl ?_)
    refine g_step_yes (j := 5) (t := 10) rfl rfl rfl rfl (s_val (v_eql rfl rfl) rfl rfl ?_)
    refine g_step rfl (s_val (v_pick_f rfl rfl) rfl rfl ?_)
    refine g_step rfl (s_val (v_move rfl) rfl rfl ?_)
    refine g_split 15 rfl (fun hg15 => ?_) (fun hg15 => ?_)
    · try simp only [decide_eq_true_eq, decide_eq_false_iff_not, Bool.not_eq_true', Bool.not_eq_false', Bool.not_eq_eq_eq_not, Bool.not_true, Bool.not_false, Bool.and_eq_true, Bool.or_eq_true, Bool.or_eq_false_iff, beq_iff_eq, beq_eq_false_iff_ne, ne_eq, Int.not_lt, Int.not_le, Decidable.not_not] at hg15
      refine g_step_no (j := 10) (t := 15) rfl rfl rfl rfl rfl rfl rfl ?_
      refine g_step_no (j := 10) (t := 15) rfl rfl rfl rfl rfl rfl rfl ?_
      refine g_step_no (j := 10) (t := 15) rfl rfl rfl rfl rfl rfl rfl ?_
      refine g_step rfl (s_val (v_pick_t rfl rfl) rfl rfl ?_)
      refine g_step rfl (s_val (v_move rfl) rfl rfl ?_)
      refine g_step_no (j := 15) (t := 20) rfl rfl rfl rfl rfl rfl rfl ?_
      refine g_step_no (j := 15) (t := 20) rfl rfl rfl rfl rfl rfl rfl ?_
      refine g_step_no (j := 15) (t := 20) rfl rfl rfl rfl rfl rfl rfl ?_
      refine g_step rfl (s_val (v_pick_t rfl rfl) rfl rfl ?_)
      refine g_step rfl (s_val (v_move rfl) rfl rfl ?_)
      refine g_step_no (j := 20) (t := 25) rfl rfl rfl rfl rfl rfl rfl ?_
      refine g_step_no (j := 20) (t := 25) rfl rfl rfl rfl rfl rfl rfl ?_
      refine g_step_no (j := 20) (t := 25) rfl rfl rfl rfl rfl rfl rfl ?_
      refine g_step rfl (s_val (v_pick_t rfl rfl) rfl rfl ?_)
      refine g_nil ?_
      refine g_next hK2 ?_
      first | refine g_keep [29] [2, 3] [2, 3] (keep_cons rfl keep_nil) (lkeep_cons rfl (lkeep_cons rfl lkeep_nil)) (keep_cons rfl (keep_cons rfl keep_nil)) rfl ?_ | refine g_keep [29] [2, 3] [2, 3] rfl rfl rfl rfl ?_
      refine g_cond rfl (fun _ => ?_) (fun h => by cases h)
      refine g_seq (fun K4 hK4 => ?_)
      refine g_region ?_
      refine g_step rfl (s_val (v_assign rfl) rfl rfl ?_)
      refine g_nil ?_
      refine g_next hK4 ?_
      refine g_ret ?_
      refine g_then_ret ?_
      refine g_end1 (.inl rfl) Try.results48 (.tmp rfl) [] (ASub.refl _) (AHeap.sub_refl _) (fun p hp => by cases hp) ⟨rfl, ?_⟩
      first | (rw [lnk, if_neg (by simp_all [cnt])]; done) | (rw [lnk, if_neg (by simp_all [cnt])]; rfl)
    · try simp only [decide_eq_true_eq, decide_eq_false_iff_not, Bool.not_eq_true', Bool.not_eq_false', Bool.not_eq_eq_eq_not, Bool.not_true, Bool.not_false, Bool.and_eq_true, Bool.or_eq_true, Bool.or_eq_false_iff, beq_iff_eq, beq_eq_false_iff_ne, ne_eq, Int.not_lt, Int.not_le, Decidable.not_not] at hg15
      refine g_step_yes (j := 10) (t := 15) rfl rfl rfl rfl (s_fieldAddr ty32 fo32_2 ty3 rfl rfl ?_)
      refine g_step_yes (j := 10) (t := 15) rfl rfl rfl rfl (s_val (v_loadl ty3 rfl rfl rfl rfl) rfl rfl ?_)
      refine g_step_yes (j := 10) (t := 15) rfl rfl rfl rfl (s_val (v_eql rfl rfl) rfl rfl ?_)
      refine g_step rfl (s_val (v_pick_f rfl rfl) rfl rfl ?_)
      refine g_step rfl (s_val (v_move rfl) rfl rfl ?_)
      refine g_split 20 rfl (fun hg20 => ?_) (fun hg20 => ?_)
      · try simp only [decide_eq_true_eq, decide_eq_false_iff_not, Bool.not_eq_true', Bool.not_eq_false', Bool.not_eq_eq_eq_not, Bool.not_true, Bool.not_false, Bool.and_eq_true, Bool.or_eq_true, Bool.or_eq_false_iff, beq_iff_eq, beq_eq_false_iff_ne, ne_eq, Int.not_lt, Int.not_le, Decidable.not_not] at hg20
        refine g_step_no (j := 15) (t := 20) rfl rfl rfl rfl rfl rfl rfl ?_
        refine g_step_no (j := 15) (t := 20) rfl rfl rfl rfl rfl rfl rfl ?_
        refine g_step_no (j := 15) (t := 20) rfl rfl rfl rfl rfl rfl rfl ?_
        refine g_step rfl (s_val (v_pick_t rfl rfl) rfl rfl ?_)
        refine g_step rfl (s_val (v_move rfl) rfl rfl ?_)
        refine g_step_no (j := 20) (t := 25) rfl rfl rfl rfl rfl rfl rfl ?_
        refine g_step_no (j := 20) (t := 25) rfl rfl rfl rfl rfl rfl rfl ?_
        refine g_step_no (j := 20) (t := 25) rfl rfl rfl rfl rfl rfl rfl ?_
        refine g_step rfl (s_val (v_pick_t rfl rfl) rfl rfl ?_)
        refine g_nil ?_
        refine g_next hK2 ?_
        refine g_cond rfl (fun _ => ?_) (fun h => by cases h)
        refine g_seq (fun K5 hK5 => ?_)
        refine g_region ?_
        refine g_step rfl (s_val (v_assign rfl) rfl rfl ?_)
        refine g_nil ?_
        refine g_next hK5 ?_
        refine g_ret ?_
        refine g_then_ret ?_
        refine g_end1 (.inl rfl) Try.results48 (.tmp rfl) [] (ASub.refl _) (AHeap.sub_refl _) (fun p hp => by cases hp) ⟨rfl, ?_⟩
        first | (rw [lnk, if_neg (by simp_all [cnt])]; done) | (rw [lnk, if_neg (by simp_all [cnt])]; rfl)
      · try simp only [decide_eq_true_eq, decide_eq_false_iff_not, Bool.not_eq_true', Bool.not_eq_false', Bool.not_eq_eq_eq_not, Bool.not_true, Bool.not_false, Bool.and_eq_true, Bool.or_eq_true, Bool.or_eq_false_iff, beq_iff_eq, beq_eq_false_iff_ne, ne_eq, Int.not_lt, Int.not_le, Decidable.not_not] at hg20
        refine g_step_yes (j := 15) (t := 20) rfl rfl rfl rfl (s_fieldAddr ty32 fo32_2 ty3 rfl rfl ?_)
        refine g_step_yes (j := 15) (t := 20) rfl rfl rfl rfl (s_val (v_loadl ty3 rfl rfl rfl rfl) rfl rfl ?_)
        refine g_step_yes (j := 15) (t := 20) rfl rfl rfl rfl (s_val (v_eql rfl rfl) rfl rfl ?_)
        refine g_step rfl (s_val (v_pick_f rfl rfl) rfl rfl ?_)
        refine g_step rfl (s_val (v_move rfl) rfl rfl ?_)
        refine g_split 25 rfl (fun hg25 => ?_) (fun hg25 => ?_)
        · try simp only [decide_eq_true_eq, decide_eq_false_iff_not, Bool.not_eq_true', Bool.not_eq_false', Bool.not_eq_eq_eq_not, Bool.not_true, Bool.not_false, Bool.and_eq_true, Bool.or_eq_true, Bool.or_eq_false_iff, beq_iff_eq, beq_eq_false_iff_ne, ne_eq, Int.not_lt, Int.not_le, Decidable.not_not] at hg25
          refine g_step_no (j := 20) (t := 25) rfl rfl rfl rfl rfl rfl rfl ?_
          refine g_step_no (j := 20) (t := 25) rfl rfl rfl rfl rfl rfl rfl ?_
          refine g_step_no (j := 20) (t := 25) rfl rfl rfl rfl rfl rfl rfl ?_
          refine g_step rfl (s_val (v_pick_t rfl rfl) rfl rfl ?_)
          refine g_nil ?_
          refine g_next hK2 ?_
          refine g_cond rfl (fun _ => ?_) (fun h => by cases h)
          refine g_seq (fun K6 hK6 => ?_)
          refine g_region ?_
          refine g_step rfl (s_val (v_assign rfl) rfl rfl ?_)
          refine g_nil ?_
          refine g_next hK6 ?_
          refine g_ret ?_
          refine g_then_ret ?_
          refine g_end1 (.inl rfl) Try.results48 (.tmp rfl) [] (ASub.refl _) (AHeap.sub_refl _) (fun p hp => by cases hp) ⟨rfl, ?_⟩
          first | (rw [lnk, if_neg (by simp_all [cnt])]; done) | (rw [lnk, if_neg (by simp_all [cnt])]; rfl)
        · try simp only [decide_eq_true_eq, decide_eq_false_iff_not, Bool.not_eq_true', Bool.not_eq_false', Bool.not_eq_eq_eq_not, Bool.not_true, Bool.not_false, Bool.and_eq_true, Bool.or_eq_true, Bool.or_eq_false_iff, beq_iff_eq, beq_eq_false_iff_ne, ne_eq, Int.not_lt, Int.not_le, Decidable.not_not] at hg25
          refine g_step_yes (j := 20) (t := 25) rfl rfl rfl rfl (s_fieldAddr ty32 fo32_2 ty3 rfl rfl ?_)
          refine g_step_yes (j := 20) (t := 25) rfl rfl rfl rfl (s_val (v_loadl ty3 rfl rfl rfl rfl) rfl rfl ?_)
          refine g_step_yes (j := 20) (t := 25) rfl rfl rfl rfl (s_val (v_eql rfl rfl) rfl rfl ?_)
          refine g_step rfl (s_val (v_pick_f rfl rfl) rfl rfl ?_)
          refine g_nil ?_
          refine g_next hK2 ?_
          refine g_cond rfl (fun hc29 => ?_) (fun hc29 => ?_)
          · try simp only [decide_eq_true_eq, decide_eq_false_iff_not, Bool.not_eq_true', Bool.not_eq_false', Bool.not_eq_eq_eq_not, Bool.not_true, Bool.not_false, Bool.and_eq_true, Bool.or_eq_true, Bool.or_eq_false_iff, beq_iff_eq, beq_eq_false_iff_ne, ne_eq, Int.not_lt, Int.not_le, Decidable.not_not] at hc29
            refine g_seq (fun K7 hK7 => ?_)
            refine g_region ?_
            refine g_step rfl (s_val (v_assign rfl) rfl rfl ?_)
            refine g_nil ?_
            refine g_next hK7 ?_
            refine g_ret ?_
            refine g_then_ret ?_
            refine g_end1 (.inl rfl) Try.results48 (.tmp rfl) [] (ASub.refl _) (AHeap.sub_refl _) (fun p hp => by cases hp) ⟨rfl, ?_⟩
            first | (rw [lnk, if_neg (by simp_all [cnt])]; done) | (rw [lnk, if_neg (by simp_all [cnt])]; rfl)
          · try simp only [decide_eq_true_eq, decide_eq_false_iff_not, Bool.not_eq_true', Bool.not_eq_false', Bool.not_eq_eq_eq_not, Bool.not_true, Bool.not_false, Bool.and_eq_true, Bool.or_eq_true, Bool.or_eq_false_iff, beq_iff_eq, beq_eq_false_iff_ne, ne_eq, Int.not_lt, Int.not_le, Decidable.not_not] at hc29
            refine g_skip ?_
            refine g_next hK1 ?_
            refine g_seq (fun K8 hK8 => ?_)
            refine g_region ?_
            refine g_step rfl (s_fieldAddr ty32 fo32_3 ty24 rfl rfl ?_)
            refine g_step rfl (s_val (v_loadl_part (cs := [_, _]) ty24 rfl rfl rfl rfl rfl rfl) rfl rfl ?_)
            refine g_step rfl (s_fieldAddr ty32 fo32_3 ty24 rfl rfl ?_)
            refine g_step rfl (s_val (v_loadl_part (cs := [_, _]) ty24 rfl rfl rfl rfl rfl rfl) rfl rfl ?_)
            refine g_step rfl (s_callp rfl rfl rfl (spBest_ok a.sp b.sp _) ?_)
            rintro _ rfl
            refine g_step rfl (s_val (v_assign rfl) rfl rfl ?_)
            refine g_nil ?_
            refine g_next hK8 ?_
            first | refine g_keep [4] [] [] (keep_cons rfl keep_nil) lkeep_nil keep_nil rfl ?_ | refine g_keep [4] [] [] rfl rfl rfl rfl ?_
            refine g_ret ?_
            refine g_end1 (.inl rfl) Try.results48 (.tmp rfl) [] (ASub.refl _) (AHeap.sub_refl _) (fun p hp => by cases hp) ⟨rfl, ?_⟩
            first | (rw [lnk, if_pos (by simp_all [cnt])]; done) | (rw [lnk, if_pos (by simp_all [cnt])]; rfl)

theorem at_ok (l : List Rc) (id : Int) (G : AHeap) (hl : l.length ≤ 100000) : PCalls Try.prog 99 [encRs l, .int .i64 id] G (fun v => v = .int .i64 (atZ l id)) := by
  refine LCalls.intro 24 fi99 rfl Try.ntmps99 rfl (fun _ h => h.elim) (fun H hH w0 hw0 => ?_)
  refine g_seq (fun K0 hK0 => ?_)
  refine g_region ?_
  refine g_step rfl (s_val (v_assign rfl) rfl rfl ?_)
  refine g_nil ?_
  refine g_next hK0 ?_
  refine g_seq (fun K1 hK1 => ?_)
  refine g_seq (fun K2 hK2 => ?_)
  refine g_region ?_
  refine g_step rfl (s_val (v_move rfl) rfl rfl ?_)
  refine g_step rfl (s_val (v_len ty22 rfl (by first | rfl | assumption) (by first | exact List.length_map .. | rfl)) rfl rfl ?_)
  refine g_step rfl (s_val (v_move rfl) rfl rfl ?_)
  refine g_nil ?_
  refine g_next hK2 ?_
  refine g_block ?_
  first | refine g_keep [1, 7, 8, 9] [] [] (keep_cons rfl (keep_cons rfl (keep_cons rfl (keep_cons rfl keep_nil)))) lkeep_nil keep_nil rfl ?_ | refine g_keep [1, 7, 8, 9] [] [] rfl rfl rfl rfl ?_
  refine g_loop (fun n env L B G => ∃ (k : Nat) , k ≤ l.length ∧ n = l.length - k ∧ env = [(1, .int .i64 id), (7, encRs l), (8, .int .i64 (l.length : Int)), (9, .int .i64 (k : Int))] ∧ L = [] ∧ B = [] ∧ H = G ∧ idx (fun r => decide (r.id = id) && cnt r) (l.drop k) + k = idx (fun r => decide (r.id = id) && cnt r) l) (l.length) ⟨0, Nat.zero_le _, rfl, rfl, rfl, rfl, rfl, rfl⟩ (fun n env L B G hI => ?_)
  obtain ⟨k, hk, rfl, rfl, rfl, rfl, rfl, hc⟩ := hI
  refine g_seq (fun K3 hK3 => ?_)
  refine g_region ?_
  refine g_step rfl (s_val (v_lss rfl rfl) rfl rfl ?_)
  refine g_nil ?_
  refine g_next hK3 ?_
  refine g_seq (fun K4 hK4 => ?_)
  refine g_cond rfl (fun hc10 => ?_) (fun hc10 => ?_)
  · try simp only [decide_eq_true_eq, decide_eq_false_iff_not, Bool.not_eq_true', Bool.not_eq_false', Bool.not_eq_eq_eq_not, Bool.not_true, Bool.not_false, Bool.and_eq_true, Bool.or_eq_true, Bool.or_eq_false_iff, beq_iff_eq, beq_eq_false_iff_ne, ne_eq, Int.not_lt, Int.not_le, Decidable.not_not] at hc10
    obtain ⟨x, hx⟩ := get_some (l := l) (k := k) (by omega)
    refine g_skip ?_
    refine g_next hK4 ?_
    refine g_seq (fun K5 hK5 => ?_)
    refine g_block ?_
    refine g_seq (fun K6 hK6 => ?_)
    refine g_region ?_
    refine g_step rfl (s_val (v_move rfl) rfl rfl ?_)
    refine g_step rfl (s_val (v_indexAddr ty22 ty32 rfl rfl (by first | rfl | assumption) (by first | rfl | exact (rfl : (0 : Int) = ((0 : Nat) : Int)) | exact (Int.toNat_of_nonneg (by omega)).symm) (map_get hx) rfl) rfl rfl ?_)
    refine g_step rfl (s_val (by first | exact v_load_elt ty32 rfl rfl (by first | rfl | assumption) (by first | assumption | exact map_get (by assumption) | rfl) rfl rfl | exact v_load_box_all ty32 rfl rfl (by assumption) rfl rfl | exact v_load_part (cs := [_, _, _, _, _, _, _]) ty32 rfl rfl (by first | rfl | assumption) (by first | assumption | exact map_get (by assumption) | rfl) rfl rfl rfl | exact v_load_box_part (cs := [_, _, _, _, _, _, _]) ty32 rfl rfl (by assumption) rfl rfl rfl) rfl rfl ?_)
    refine g_step rfl (s_alloc (av := (.agg [(.int .i64 0), (.int .i64 0), (.int .i64 0), (.int .i64 0), (.int .i64 0), (.bool false), .nil0])) ty32 rfl rfl rfl rfl ?_)
    refine g_step rfl (s_val (v_assign rfl) rfl rfl ?_)
    refine g_step rfl (s_store_all ty32 rfl rfl rfl rfl rfl rfl ?_)
    refine g_nil ?_
    refine g_next hK6 ?_
    refine g_seq (fun K7 hK7 => ?_)
    refine g_region ?_
    refine g_step rfl (s_fieldAddr ty32 fo32_0 ty3 rfl rfl ?_)
    refine g_step rfl (s_val (v_loadl ty3 rfl rfl rfl rfl) rfl rfl ?_)
    refine g_step rfl (s_val (v_move rfl) rfl rfl ?_)
    refine g_step rfl (s_val (v_eql rfl rfl) rfl rfl ?_)
    refine g_step rfl (s_val (v_move rfl) rfl rfl ?_)
    refine g_split 18 rfl (fun hg18 => ?_) (fun hg18 => ?_)
    · try simp only [decide_eq_true_eq, decide_eq_false_iff_not, Bool.not_eq_true', Bool.not_eq_false', Bool.not_eq_eq_eq_not, Bool.not_true, Bool.not_false, Bool.and_eq_true, Bool.or_eq_true, Bool.or_eq_false_iff, beq_iff_eq, beq_eq_false_iff_ne, ne_eq, Int.not_lt, Int.not_le, Decidable.not_not] at hg18
      refine g_step_yes (j := 4) (t := 18) rfl rfl rfl rfl (s_val (by first | exact v_loadl_all ty32 rfl rfl rfl rfl rfl | exact v_loadl_part (cs := [_, _, _, _, _, _, _]) ty32 rfl rfl rfl rfl rfl rfl) rfl rfl ?_)
      refine g_step_yes (j := 4) (t := 18) rfl rfl rfl rfl (s_callp rfl rfl rfl (rcounts_ok _ _) ?_)
      rintro _ rfl
      refine g_step rfl (s_val (v_pick_t rfl rfl) rfl rfl ?_)
      refine g_nil ?_
      refine g_next hK7 ?_
      refine g_cond rfl (fun hc21 => ?_) (fun hc21 => ?_)
      · try simp only [decide_eq_true_eq, decide_eq_false_iff_not, Bool.not_eq_true', Bool.not_eq_false', Bool.not_eq_eq_eq_not, Bool.not_true, Bool.not_false, Bool.and_eq_true, Bool.or_eq_true, Bool.or_eq_false_iff, beq_iff_eq, beq_eq_false_iff_ne, ne_eq, Int.not_lt, Int.not_le, Decidable.not_not] at hc21
        refine g_seq (fun K8 hK8 => ?_)
        refine g_region ?_
        refine g_step rfl (s_val (v_move rfl) rfl rfl ?_)
        refine g_step rfl (s_val (v_assign rfl) rfl rfl ?_)
        refine g_nil ?_
        refine g_next hK8 ?_
        refine g_ret ?_
        refine g_block_ret ?_
        refine g_then_ret ?_
        refine g_then_ret ?_
        refine g_block_ret ?_
        refine g_then_ret ?_
        refine g_end1 (.inl rfl) Try.results99 (.tmp rfl) [] (ASub.refl _) (AHeap.sub_refl _) (fun p hp => by cases hp) ⟨rfl, ?_⟩
        first | (rw [atZ, idxZ, idx_hit hc hx (by simp_all), if_pos (by omega)]; done) | (rw [atZ, idxZ, idx_hit hc hx (by simp_all), if_pos (by omega)]; rfl)
      · try simp only [decide_eq_true_eq, decide_eq_false_iff_not, Bool.not_eq_true', Bool.not_eq_false', Bool.not_eq_eq_eq_not, Bool.not_true, Bool.not_false, Bool.and_eq_true, Bool.or_eq_true, Bool.or_eq_false_iff, beq_iff_eq, beq_eq_false_iff_ne, ne_eq, Int.not_lt, Int.not_le, Decidable.not_not] at hc21
        refine g_skip ?_
        refine g_block_normal ?_
        refine g_next hK5 ?_
        refine g_region ?_
        refine g_step rfl (s_val (v_add rfl rfl (by omega)) rfl rfl ?_)
        refine g_step rfl (s_val (v_move rfl) rfl rfl ?_)
        refine g_nil ?_
        first | refine g_keep [1, 7, 8, 9] [] [] (keep_cons rfl (keep_cons rfl (keep_cons rfl (keep_cons rfl keep_nil)))) lkeep_nil keep_nil rfl ?_ | refine g_keep [1, 7, 8, 9] [] [] rfl rfl rfl rfl ?_
        exact g_round _ (by omega) ⟨k + 1, by omega, rfl, rfl, rfl, rfl, rfl, idx_miss hc hx (by simp_all)⟩
    · try simp only [decide_eq_true_eq, decide_eq_false_iff_not, Bool.not_eq_true', Bool.not_eq_false', Bool.not_eq_eq_eq_not, Bool.not_true, Bool.not_false, Bool.and_eq_true, Bool.or_eq_true, Bool.or_eq_false_iff, beq_iff_eq, beq_eq_false_iff_ne, ne_eq, Int.not_lt, Int.not_le, Decidable.not_not] at hg18
      refine g_step_no (j := 4) (t := 18) rfl rfl rfl rfl rfl rfl rfl ?_
      refine g_step_no (j := 4) (t := 18) rfl rfl rfl rfl rfl rfl rfl ?_
      refine g_step rfl (s_val (v_pick_f rfl rfl) rfl rfl ?_)
      refine g_nil ?_
      refine g_next hK7 ?_
      refine g_cond rfl (fun h => by cases h) (fun _ => ?_)
      refine g_skip ?_
      refine g_block_normal ?_
      refine g_next hK5 ?_
      refine g_region ?_
      refine g_step rfl (s_val (v_add rfl rfl (by omega)) rfl rfl ?_)
      refine g_step rfl (s_val (v_move rfl) rfl rfl ?_)
      refine g_nil ?_
      first | refine g_keep [1, 7, 8, 9] [] [] (keep_cons rfl (keep_cons rfl (keep_cons rfl (keep_cons rfl keep_nil)))) lkeep_nil keep_nil rfl ?_ | refine g_keep [1, 7, 8, 9] [] [] rfl rfl rfl rfl ?_
      exact g_round _ (by omega) ⟨k + 1, by omega, rfl, rfl, rfl, rfl, rfl, idx_miss hc hx (by simp_all)⟩
  · try simp only [decide_eq_true_eq, decide_eq_false_iff_not, Bool.not_eq_true', Bool.not_eq_false', Bool.not_eq_eq_eq_not, Bool.not_true, Bool.not_false, Bool.and_eq_true, Bool.or_eq_true, Bool.or_eq_false_iff, beq_iff_eq, beq_eq_false_iff_ne, ne_eq, Int.not_lt, Int.not_le, Decidable.not_not] at hc10
    obtain rfl : k = l.length := by omega
    refine g_exit ?_
    refine g_then_exit ?_
    refine g_then_exit ?_
    refine g_block_same ?_
    refine g_next hK1 ?_
    refine g_seq (fun K9 hK9 => ?_)
    refine g_region ?_
    refine g_step rfl (s_val (v_assign rfl) rfl rfl ?_)
    refine g_nil ?_
    refine g_next hK9 ?_
    refine g_ret ?_
    refine g_end1 (.inl rfl) Try.results99 (.tmp rfl) [] (ASub.refl _) (AHeap.sub_refl _) (fun p hp => by cases hp) ⟨rfl, ?_⟩
    first | (rw [atZ, idxZ, idx_end hc, if_neg (by omega)]; done) | (rw [atZ, idxZ, idx_end hc, if_neg (by omega)]; rfl)

theorem place_ok (l : List Rc) (id : Int) (G : AHeap) (hl : l.length ≤ 100000) : PCalls Try.prog 46 [encRs l, .int .i64 id] G (fun v => v = .int .i64 (atZ l id)) := by
  refine LCalls.intro 36 fi46 rfl Try.ntmps46 rfl (fun _ h => h.elim) (fun H hH w0 hw0 => ?_)
  refine g_seq (fun K0 hK0 => ?_)
  refine g_region ?_
  refine g_step rfl (s_val (v_assign rfl) rfl rfl ?_)
  refine g_nil ?_
  refine g_next hK0 ?_
  refine g_seq (fun K1 hK1 => ?_)
  refine g_seq (fun K2 hK2 => ?_)
  refine g_region ?_
  refine g_step rfl (s_val (v_assign rfl) rfl rfl ?_)
  refine g_nil ?_
  refine g_next hK2 ?_
  refine g_block ?_
  first | refine g_keep [0, 1, 5] [] [] (keep_cons rfl (keep_cons rfl (keep_cons rfl keep_nil))) lkeep_nil keep_nil rfl ?_ | refine g_keep [0, 1, 5] [] [] rfl rfl rfl rfl ?_
  refine g_loop (fun n env L B G => ∃ (k : Nat) , k ≤ l.length ∧ n = l.length - k ∧ env = [(0, encRs l), (1, .int .i64 id), (5, .int .i64 (k : Int))] ∧ L = [] ∧ B = [] ∧ H = G ∧ idx (fun r => decide (r.id = id) && cnt r) (l.drop k) + k = idx (fun r => decide (r.id = id) && cnt r) l) (l.length) ⟨0, Nat.zero_le _, rfl, rfl, rfl, rfl, rfl, rfl⟩ (fun n env L B G hI => ?_)
  obtain ⟨k, hk, rfl, rfl, rfl, rfl, rfl, hc⟩ := hI
  refine g_seq (fun K3 hK3 => ?_)
  refine g_seq (fun K4 hK4 => ?_)
  refine g_region ?_
  refine g_step rfl (s_val (v_move rfl) rfl rfl ?_)
  refine g_step rfl (s_val (v_move rfl) rfl rfl ?_)
  refine g_step rfl (s_val (v_len ty22 rfl (by first | rfl | assumption) (by first | exact List.length_map .. | rfl)) rfl rfl ?_)
  refine g_step rfl (s_val (v_lss rfl rfl) rfl rfl ?_)
  refine g_nil ?_
  refine g_next hK4 ?_
  refine g_cond rfl (fun hc9 => ?_) (fun hc9 => ?_)
  · try simp only [decide_eq_true_eq, decide_eq_false_iff_not, Bool.not_eq_true', Bool.not_eq_false', Bool.not_eq_eq_eq_not, Bool.not_true, Bool.not_false, Bool.and_eq_true, Bool.or_eq_true, Bool.or_eq_false_iff, beq_iff_eq, beq_eq_false_iff_ne, ne_eq, Int.not_lt, Int.not_le, Decidable.not_not] at hc9
    obtain ⟨x, hx⟩ := get_some (l := l) (k := k) (by omega)
    refine g_skip ?_
    refine g_next hK3 ?_
    refine g_seq (fun K5 hK5 => ?_)
    refine g_block ?_
    refine g_seq (fun K6 hK6 => ?_)
    refine g_region ?_
    refine g_step rfl (s_val (v_move rfl) rfl rfl ?_)
    refine g_step rfl (s_val (v_move rfl) rfl rfl ?_)
    refine g_step rfl (s_val (v_indexAddr ty22 ty32 rfl rfl (by first | rfl | assumption) (by first | rfl | exact (rfl : (0 : Int) = ((0 : Nat) : Int)) | exact (Int.toNat_of_nonneg (by omega)).symm) (map_get hx) rfl) rfl rfl ?_)
    refine g_step rfl (s_val (by first | exact v_fieldAddr ty32 fo32_0 ty3 rfl | exact v_fieldAddr_box ty32 fo32_0 ty3 rfl) rfl rfl ?_)
    refine g_step rfl (s_val (by first | exact v_load ty3 rfl rfl (by first | rfl | assumption) (map_get hx) rfl | exact v_load_box ty3 rfl rfl (by assumption) rfl) rfl rfl ?_)
    refine g_step rfl (s_val (v_move rfl) rfl rfl ?_)
    refine g_step rfl (s_val (v_eql rfl rfl) rfl rfl ?_)
    refine g_step rfl (s_val (v_move rfl) rfl rfl ?_)
    refine g_split 19 rfl (fun hg19 => ?_) (fun hg19 => ?_)
    · try simp only [decide_eq_true_eq, decide_eq_false_iff_not, Bool.not_eq_true', Bool.not_eq_false', Bool.not_eq_eq_eq_not, Bool.not_true, Bool.not_false, Bool.and_eq_true, Bool.or_eq_true, Bool.or_eq_false_iff, beq_iff_eq, beq_eq_false_iff_ne, ne_eq, Int.not_lt, Int.not_le, Decidable.not_not] at hg19
      refine g_step_yes (j := 7) (t := 19) rfl rfl rfl rfl (s_val (v_move rfl) rfl rfl ?_)
      refine g_step_yes (j := 7) (t := 19) rfl rfl rfl rfl (s_val (v_move rfl) rfl rfl ?_)
      refine g_step_yes (j := 7) (t := 19) rfl rfl rfl rfl (s_val (v_indexAddr ty22 ty32 rfl rfl (by first | rfl | assumption) (by first | rfl | exact (rfl : (0 : Int) = ((0 : Nat) : Int)) | exact (Int.toNat_of_nonneg (by omega)).symm) (map_get hx) rfl) rfl rfl ?_)
      refine g_step_yes (j := 7) (t := 19) rfl rfl rfl rfl (s_val (by first | exact v_fieldAddr ty32 fo32_2 ty3 rfl | exact v_fieldAddr_box ty32 fo32_2 ty3 rfl) rfl rfl ?_)
      refine g_step_yes (j := 7) (t := 19) rfl rfl rfl rfl (s_val (by first | exact v_load ty3 rfl rfl (by first | rfl | assumption) (map_get hx) rfl | exact v_load_box ty3 rfl rfl (by assumption) rfl) rfl rfl ?_)
      refine g_step_yes (j := 7) (t := 19) rfl rfl rfl rfl (s_val (v_neq rfl rfl) rfl rfl ?_)
      refine g_step rfl (s_val (v_pick_t rfl rfl) rfl rfl ?_)
      refine g_step rfl (s_val (v_move rfl) rfl rfl ?_)
      refine g_split 27 rfl (fun hg27 => ?_) (fun hg27 => ?_)
      · try simp only [decide_eq_true_eq, decide_eq_false_iff_not, Bool.not_eq_true', Bool.not_eq_false', Bool.not_eq_eq_eq_not, Bool.not_true, Bool.not_false, Bool.and_eq_true, Bool.or_eq_true, Bool.or_eq_false_iff, beq_iff_eq, beq_eq_false_iff_ne, ne_eq, Int.not_lt, Int.not_le, Decidable.not_not] at hg27
        refine g_step_yes (j := 15) (t := 27) rfl rfl rfl rfl (s_val (v_move rfl) rfl rfl ?_)
        refine g_step_yes (j := 15) (t := 27) rfl rfl rfl rfl (s_val (v_move rfl) rfl rfl ?_)
        refine g_step_yes (j := 15) (t := 27) rfl rfl rfl rfl (s_val (v_indexAddr ty22 ty32 rfl rfl (by first | rfl | assumption) (by first | rfl | exact (rfl : (0 : Int) = ((0 : Nat) : Int)) | exact (Int.toNat_of_nonneg (by omega)).symm) (map_get hx) rfl) rfl rfl ?_)
        refine g_step_yes (j := 15) (t := 27) rfl rfl rfl rfl (s_val (by first | exact v_fieldAddr ty32 fo32_2 ty3 rfl | exact v_fieldAddr_box ty32 fo32_2 ty3 rfl) rfl rfl ?_)
        refine g_step_yes (j := 15) (t := 27) rfl rfl rfl rfl (s_val (by first | exact v_load ty3 rfl rfl (by first | rfl | assumption) (map_get hx) rfl | exact v_load_box ty3 rfl rfl (by assumption) rfl) rfl rfl ?_)
        refine g_step_yes (j := 15) (t := 27) rfl rfl rfl rfl (s_val (v_neq rfl rfl) rfl rfl ?_)
        refine g_step rfl (s_val (v_pick_t rfl rfl) rfl rfl ?_)
        refine g_nil ?_
        refine g_next hK6 ?_
        first | refine g_keep [0, 1, 5, 34] [] [] (keep_cons rfl (keep_cons rfl (keep_cons rfl (keep_cons rfl keep_nil)))) lkeep_nil keep_nil rfl ?_ | refine g_keep [0, 1, 5, 34] [] [] rfl rfl rfl rfl ?_
        refine g_cond rfl (fun hc34 => ?_) (fun hc34 => ?_)
        · try simp only [decide_eq_true_eq, decide_eq_false_iff_not, Bool.not_eq_true', Bool.not_eq_false', Bool.not_eq_eq_eq_not, Bool.not_true, Bool.not_false, Bool.and_eq_true, Bool.or_eq_true, Bool.or_eq_false_iff, beq_iff_eq, beq_eq_false_iff_ne, ne_eq, Int.not_lt, Int.not_le, Decidable.not_not] at hc34
          refine g_seq (fun K7 hK7 => ?_)
          refine g_region ?_
          refine g_step rfl (s_val (v_move rfl) rfl rfl ?_)
          refine g_step rfl (s_val (v_assign rfl) rfl rfl ?_)
          refine g_nil ?_
          refine g_next hK7 ?_
          refine g_ret ?_
          refine g_block_ret ?_
          refine g_then_ret ?_
          refine g_then_ret ?_
          refine g_block_ret ?_
          refine g_then_ret ?_
          refine g_end1 (.inl rfl) Try.results46 (.tmp rfl) [] (ASub.refl _) (AHeap.sub_refl _) (fun p hp => by cases hp) ⟨rfl, ?_⟩
          first | (rw [atZ, idxZ, idx_hit hc hx (by simp_all [cnt]), if_pos (by omega)]; done) | (rw [atZ, idxZ, idx_hit hc hx (by simp_all [cnt]), if_pos (by omega)]; rfl)
        · try simp only [decide_eq_true_eq, decide_eq_false_iff_not, Bool.not_eq_true', Bool.not_eq_false', Bool.not_eq_eq_eq_not, Bool.not_true, Bool.not_false, Bool.and_eq_true, Bool.or_eq_true, Bool.or_eq_false_iff, beq_iff_eq, beq_eq_false_iff_ne, ne_eq, Int.not_lt, Int.not_le, Decidable.not_not] at hc34
          refine g_skip ?_
          refine g_block_normal ?_
          refine g_next hK5 ?_
          refine g_region ?_
          refine g_step rfl (s_val (v_move rfl) rfl rfl ?_)
          refine g_step rfl (s_val (v_add rfl rfl (by omega)) rfl rfl ?_)
          refine g_step rfl (s_val (v_assign rfl) rfl rfl ?_)
          refine g_nil ?_
          first | refine g_keep [0, 1, 5] [] [] (keep_cons rfl (keep_cons rfl (keep_cons rfl keep_nil))) lkeep_nil keep_nil rfl ?_ | refine g_keep [0, 1, 5] [] [] rfl rfl rfl rfl ?_
          exact g_round _ (by omega) ⟨k + 1, by omega, rfl, rfl, rfl, rfl, rfl, idx_miss hc hx (by simp_all [cnt])⟩
      · try simp only [decide_eq_true_eq, decide_eq_false_iff_not, Bool.not_eq_true', Bool.not_eq_false', Bool.not_eq_eq_eq_not, Bool.not_true, Bool.not_false, Bool.and_eq_true, Bool.or_eq_true, Bool.or_eq_false_iff, beq_iff_eq, beq_eq_false_iff_ne, ne_eq, Int.not_lt, Int.not_le, Decidable.not_not] at hg27
        refine g_step_no (j := 15) (t := 27) rfl rfl rfl rfl rfl rfl rfl ?_
        refine g_step_no (j := 15) (t := 27) rfl rfl rfl rfl rfl rfl rfl ?_
        refine g_step_no (j := 15) (t := 27) rfl rfl rfl rfl rfl rfl rfl ?_
        refine g_step_no (j := 15) (t := 27) rfl rfl rfl rfl rfl rfl rfl ?_
        refine g_step_no (j := 15) (t := 27) rfl rfl rfl rfl rfl rfl rfl ?_
        refine g_step_no (j := 15) (t := 27) rfl rfl rfl rfl rfl rfl rfl ?_
        refine g_step rfl (s_val (v_pick_f rfl rfl) rfl rfl ?_)
        refine g_nil ?_
        refine g_next hK6 ?_
        first | refine g_keep [0, 1, 5, 34] [] [] (keep_cons rfl (keep_cons rfl (keep_cons rfl (keep_cons rfl keep_nil)))) lkeep_nil keep_nil rfl ?_ | refine g_keep [0, 1, 5, 34] [] [] rfl rfl rfl rfl ?_
        refine g_cond rfl (fun h => by cases h) (fun _ => ?_)
        refine g_skip ?_
        refine g_block_normal ?_
        refine g_next hK5 ?_
        refine g_region ?_
        refine g_step rfl (s_val (v_move rfl) rfl rfl ?_)
        refine g_step rfl (s_val (v_add rfl rfl (by omega)) rfl rfl ?_)
        refine g_step rfl (s_val (v_assign rfl) rfl rfl ?_)
        refine g_nil ?_
        first | refine g_keep [0, 1, 5] [] [] (keep_cons rfl (keep_cons rfl (keep_cons rfl keep_nil))) lkeep_nil keep_nil rfl ?_ | refine g_keep [0, 1, 5] [] [] rfl rfl rfl rfl ?_
        exact g_round _ (by omega) ⟨k + 1, by omega, rfl, rfl, rfl, rfl, rfl, idx_miss hc hx (by simp_all [cnt])⟩
    · try simp only [decide_eq_true_eq, decide_eq_false_iff_not, Bool.not_eq_true', Bool.not_eq_false', Bool.not_eq_eq_eq_not, Bool.not_true, Bool.not_false, Bool.and_eq_true, Bool.or_eq_true, Bool.or_eq_false_iff, beq_iff_eq, beq_eq_false_iff_ne, ne_eq, Int.not_lt, Int.not_le, Decidable.not_not] at hg19
      refine g_step_no (j := 7) (t := 19) rfl rfl rfl rfl rfl rfl rfl ?_
      refine g_step_no (j := 7) (t := 19) rfl rfl rfl rfl rfl rfl rfl ?_
      refine g_step_no (j := 7) (t := 19) rfl rfl rfl rfl rfl rfl rfl ?_
      refine g_step_no (j := 7) (t := 19) rfl rfl rfl rfl rfl rfl rfl ?_
      refine g_step_no (j := 7) (t := 19) rfl rfl rfl rfl rfl rfl rfl ?_
      refine g_step_no (j := 7) (t := 19) rfl rfl rfl rfl rfl rfl rfl ?_
      refine g_step rfl (s_val (v_pick_f rfl rfl) rfl rfl ?_)
      refine g_step rfl (s_val (v_move rfl) rfl rfl ?_)
      refine g_step_no (j := 15) (t := 27) rfl rfl rfl rfl rfl rfl rfl ?_
      refine g_step_no (j := 15) (t := 27) rfl rfl rfl rfl rfl rfl rfl ?_
      refine g_step_no (j := 15) (t := 27) rfl rfl rfl rfl rfl rfl rfl ?_
      refine g_step_no (j := 15) (t := 27) rfl rfl rfl rfl rfl rfl rfl ?_
      refine g_step_no (j := 15) (t := 27) rfl rfl rfl rfl rfl rfl rfl ?_
      refine g_step_no (j := 15) (t := 27) rfl rfl rfl rfl rfl rfl rfl ?_
      refine g_step rfl (s_val (v_pick_f rfl rfl) rfl rfl ?_)
      refine g_nil ?_
      refine g_next hK6 ?_
      first | refine g_keep [0, 1, 5, 34] [] [] (keep_cons rfl (keep_cons rfl (keep_cons rfl (keep_cons rfl keep_nil)))) lkeep_nil keep_nil rfl ?_ | refine g_keep [0, 1, 5, 34] [] [] rfl rfl rfl rfl ?_
      refine g_cond rfl (fun h => by cases h) (fun _ => ?_)
      refine g_skip ?_
      refine g_block_normal ?_
      refine g_next hK5 ?_
      refine g_region ?_
      refine g_step rfl (s_val (v_move rfl) rfl rfl ?_)
      refine g_step rfl (s_val (v_add rfl rfl (by omega)) rfl rfl ?_)
      refine g_step rfl (s_val (v_assign rfl) rfl rfl ?_)
      refine g_nil ?_
      first | refine g_keep [0, 1, 5] [] [] (keep_cons rfl (keep_cons rfl (keep_cons rfl keep_nil))) lkeep_nil keep_nil rfl ?_ | refine g_keep [0, 1, 5] [] [] rfl rfl rfl rfl ?_
      exact g_round _ (by omega) ⟨k + 1, by omega, rfl, rfl, rfl, rfl, rfl, idx_miss hc hx (by simp_all [cnt])⟩
  · try simp only [decide_eq_true_eq, decide_eq_false_iff_not, Bool.not_eq_true', Bool.not_eq_false', Bool.not_eq_eq_eq_not, Bool.not_true, Bool.not_false, Bool.and_eq_true, Bool.or_eq_true, Bool.or_eq_false_iff, beq_iff_eq, beq_eq_false_iff_ne, ne_eq, Int.not_lt, Int.not_le, Decidable.not_not] at hc9
    obtain rfl : k = l.length := by omega
    refine g_exit ?_
    refine g_then_exit ?_
    refine g_then_exit ?_
    refine g_block_same ?_
    refine g_next hK1 ?_
    refine g_seq (fun K8 hK8 => ?_)
    refine g_region ?_
    refine g_step rfl (s_val (v_assign rfl) rfl rfl ?_)
    refine g_nil ?_
    refine g_next hK8 ?_
    refine g_ret ?_
    refine g_end1 (.inl rfl) Try.results46 (.tmp rfl) [] (ASub.refl _) (AHeap.sub_refl _) (fun p hp => by cases hp) ⟨rfl, ?_⟩
    first | (rw [atZ, idxZ, idx_end hc, if_neg (by omega)]; done) | (rw [atZ, idxZ, idx_end hc, if_neg (by omega)]; rfl)

theorem joined_ok (ls : List (List Int)) (G : AHeap) (hT : ls.flatten.length ≤ 100000) (hls : ls.length ≤ 100000) : PCalls Try.prog 101 [.imm (ls.map fun m => .imm (m.map (.int .i64)))] G (fun v => v = .imm (ls.flatten.map (.int .i64))) := by
  refine LCalls.intro 17 fi101 rfl Try.ntmps101 rfl (fun _ h => h.elim) (fun H hH w0 hw0 => ?_)
  refine g_seq (fun K0 hK0 => ?_)
  refine g_region ?_
  refine g_step rfl (s_val (v_assign rfl) rfl rfl ?_)
  refine g_nil ?_
  refine g_next hK0 ?_
  refine g_seq (fun K1 hK1 => ?_)
  refine g_region ?_
  refine g_step rfl (s_val (v_assign rfl) rfl rfl ?_)
  refine g_nil ?_
  refine g_next hK1 ?_
  refine g_seq (fun K2 hK2 => ?_)
  refine g_seq (fun K3 hK3 => ?_)
  refine g_region ?_
  refine g_step rfl (s_val (v_move rfl) rfl rfl ?_)
  refine g_step rfl (s_val (v_len ty74 rfl (by first | rfl | assumption) (by first | exact List.length_map .. | rfl)) rfl rfl ?_)
  refine g_step rfl (s_val (v_move rfl) rfl rfl ?_)
  refine g_nil ?_
  refine g_next hK3 ?_
  refine g_block ?_
  first | refine g_keep [3, 6, 7, 8] [] [] (keep_cons rfl (keep_cons rfl (keep_cons rfl (keep_cons rfl keep_nil)))) lkeep_nil keep_nil rfl ?_ | refine g_keep [3, 6, 7, 8] [] [] rfl rfl rfl rfl ?_
  refine g_loop (fun n env L B G => ∃ (k : Nat) (av : AV), k ≤ ls.length ∧ n = ls.length - k ∧ env = [(3, av), (6, .imm (ls.map fun m => .imm (m.map (.int .i64)))), (7, .int .i64 (ls.length : Int)), (8, .int .i64 (k : Int))] ∧ L = [] ∧ B = [] ∧ Own w0.heap.size 1 H av (((ls.take k).flatten).map (.int .i64)) G) (ls.length) ⟨0, .nil0, Nat.zero_le _, rfl, rfl, rfl, rfl, Own.nil ..⟩ (fun n env L B G hI => ?_)
  obtain ⟨k, av, hk, rfl, rfl, rfl, rfl, hown⟩ := hI
  refine g_seq (fun K4 hK4 => ?_)
  refine g_region ?_
  refine g_step rfl (s_val (v_lss rfl rfl) rfl rfl ?_)
  refine g_nil ?_
  refine g_next hK4 ?_
  refine g_seq (fun K5 hK5 => ?_)
  refine g_cond rfl (fun hc9 => ?_) (fun hc9 => ?_)
  · try simp only [decide_eq_true_eq, decide_eq_false_iff_not, Bool.not_eq_true', Bool.not_eq_false', Bool.not_eq_eq_eq_not, Bool.not_true, Bool.not_false, Bool.and_eq_true, Bool.or_eq_true, Bool.or_eq_false_iff, beq_iff_eq, beq_eq_false_iff_ne, ne_eq, Int.not_lt, Int.not_le, Decidable.not_not] at hc9
    obtain ⟨m, hm⟩ := get_some (l := ls) (k := k) (by omega)
    have hfl := flat_len_le hm
    refine g_skip ?_
    refine g_next hK5 ?_
    refine g_seq (fun K6 hK6 => ?_)
    refine g_block ?_
    refine g_seq (fun K7 hK7 => ?_)
    refine g_region ?_
    refine g_step rfl (s_val (v_indexAddr ty74 ty27 rfl rfl (by first | rfl | assumption) (by first | rfl | exact (rfl : (0 : Int) = ((0 : Nat) : Int)) | exact (Int.toNat_of_nonneg (by omega)).symm) (map_get hm) rfl) rfl rfl ?_)
    refine g_step rfl (s_val (by first | exact v_load ty27 rfl rfl (by first | rfl | assumption) (map_get hm) rfl | exact v_load_box ty27 rfl rfl (by assumption) rfl) rfl rfl ?_)
    refine g_step rfl (s_val (v_assign rfl) rfl rfl ?_)
    refine g_nil ?_
    refine g_next hK7 ?_
    refine g_region ?_
    refine g_step rfl (s_val (v_move rfl) rfl rfl ?_)
    refine g_step rfl (s_val (v_move rfl) rfl rfl ?_)
    refine g_step rfl (s_append (l := (((ls.take k).flatten).map (.int .i64))) (m := (m.map (.int .i64))) ty27 ty3 rfl rfl hown rfl rfl (by refine Even.map _ ?_ _; intro _; rfl) (by intro x hx; obtain ⟨_, _, rfl⟩ := List.mem_map.1 hx; rfl) rfl (by simp only [List.length_map]; omega) (by simp only [List.length_map]; omega) ?_)
    intro av14 G14 hown14
    refine g_step rfl (s_val (v_assign rfl) rfl rfl ?_)
    refine g_nil ?_
    refine g_block_normal ?_
    refine g_next hK6 ?_
    refine g_region ?_
    refine g_step rfl (s_val (v_add rfl rfl (by omega)) rfl rfl ?_)
    refine g_step rfl (s_val (v_move rfl) rfl rfl ?_)
    refine g_nil ?_
    first | refine g_keep [3, 6, 7, 8] [] [] (keep_cons rfl (keep_cons rfl (keep_cons rfl (keep_cons rfl keep_nil)))) lkeep_nil keep_nil rfl ?_ | refine g_keep [3, 6, 7, 8] [] [] rfl rfl rfl rfl ?_
    exact g_round _ (by omega) ⟨k + 1, av14, by omega, rfl, rfl, rfl, rfl, by rw [flat_snoc hm, List.map_append]; exact hown14⟩
  · try simp only [decide_eq_true_eq, decide_eq_false_iff_not, Bool.not_eq_true', Bool.not_eq_false', Bool.not_eq_eq_eq_not, Bool.not_true, Bool.not_false, Bool.and_eq_true, Bool.or_eq_true, Bool.or_eq_false_iff, beq_iff_eq, beq_eq_false_iff_ne, ne_eq, Int.not_lt, Int.not_le, Decidable.not_not] at hc9
    obtain rfl : k = ls.length := by omega
    rw [List.take_length] at hown
    refine g_exit ?_
    refine g_then_exit ?_
    refine g_then_exit ?_
    refine g_block_same ?_
    refine g_next hK2 ?_
    refine g_seq (fun K8 hK8 => ?_)
    refine g_region ?_
    refine g_freeze 3 rfl hown ?_
    refine g_step rfl (s_val (v_move rfl) rfl rfl ?_)
    refine g_step rfl (s_val (v_assign rfl) rfl rfl ?_)
    refine g_nil ?_
    refine g_next hK8 ?_
    refine g_ret ?_
    refine g_end1 (.inl rfl) Try.results101 (.tmp rfl) [] (ASub.refl _) (AHeap.sub_refl _) (fun p hp => by cases hp) ⟨rfl, ?_⟩
    rfl

theorem near_ok (bl bo bc rn nn i : Nat) (l : List Rc) (least : Int) (F : Nat → Int) (G : AHeap) (hl : G bl = some (.box (encRs l))) (ho : G bo = some (.box (.own rn 1 0 nn))) (hr : G rn = some (.row 1 (((List.range l.length).map F).map (.int .i64)))) (hc : G bc = some (.box (.int .i64 least))) (hnn : nn = l.length) (hi : i < l.length) (hFi : 0 ≤ F i ∧ F i ≤ 1000) (hN : l.length ≤ 1000) : LCalls Try.prog 100 [.int .i64 (i : Int), .box bl 0, .box bo 0, .box bc 0] G (· = rn) (fun n r effs => r = .imm ((((List.range l.length).filter (nearP (adj l least) i F)).map fun k : Nat => (k : Int)).map (.int .i64)) ∧ effs = [(rn, .row 1 (((List.range l.length).map (nearF (adj l least) i F)).map (.int .i64)))]) := by
  refine LCalls.intro 45 fi100 rfl Try.ntmps100 rfl (fun b hb => by subst hb; rw [hr]; simp) (fun H hH w0 hw0 => ?_)
  have hl1 := hH _ _ hl
  have ho1 := hH _ _ ho
  have hr1 := hH _ _ hr
  have hc1 := hH _ _ hc
  have hbo : bo ≠ rn := fun e => by rw [e, hr1] at ho1; cases ho1
  have hbl : bl ≠ rn := fun e => by rw [e, hr1] at hl1; cases hl1
  have hbc : bc ≠ rn := fun e => by rw [e, hr1] at hc1; cases hc1
  obtain ⟨xi, hxi⟩ := get_some hi
  refine g_seq (fun K0 hK0 => ?_)
  refine g_region ?_
  refine g_step rfl (s_val (v_assign rfl) rfl rfl ?_)
  refine g_nil ?_
  refine g_next hK0 ?_
  refine g_seq (fun K1 hK1 => ?_)
  refine g_region ?_
  refine g_step rfl (s_val (v_assign rfl) rfl rfl ?_)
  refine g_nil ?_
  refine g_next hK1 ?_
  refine g_seq (fun K2 hK2 => ?_)
  refine g_seq (fun K3 hK3 => ?_)
  refine g_region ?_
  refine g_step rfl (s_val (by first | exact v_load ty22 rfl rfl (by first | rfl | assumption) (by first | assumption | exact map_get (by assumption) | rfl) rfl | exact v_load_box ty22 rfl rfl hl1 (by rfl)) rfl rfl ?_)
  refine g_step rfl (s_val (v_len ty22 rfl (by first | rfl | assumption) (by first | exact List.length_map .. | rfl)) rfl rfl ?_)
  refine g_step rfl (s_val (v_move rfl) rfl rfl ?_)
  refine g_nil ?_
  refine g_next hK3 ?_
  refine g_block ?_
  first | refine g_keep [0, 1, 2, 3, 6, 9, 10] [] [] (keep_cons rfl (keep_cons rfl (keep_cons rfl (keep_cons rfl (keep_cons rfl (keep_cons rfl (keep_cons rfl keep_nil))))))) lkeep_nil keep_nil rfl ?_ | refine g_keep [0, 1, 2, 3, 6, 9, 10] [] [] rfl rfl rfl rfl ?_
  refine g_loop (fun n env L B G => ∃ (k : Nat) (av : AV) (R : List Int), k ≤ l.length ∧ n = l.length - k ∧ env = [(0, .int .i64 (i : Int)), (1, .box bl 0), (2, .box bo 0), (3, .box bc 0), (6, av), (9, .int .i64 (l.length : Int)), (10, .int .i64 (k : Int))] ∧ L = [] ∧ B = [] ∧ R = (List.range l.length).map (fun j => if j < k then nearF (adj l least) i F j else F j) ∧ Own w0.heap.size 1 (H.set rn (.row 1 (R.map (.int .i64)))) av ((((List.range k).filter (nearP (adj l least) i F)).map fun k : Nat => (k : Int)).map (.int .i64)) G) (l.length) ⟨0, .nil0, (List.range l.length).map F, Nat.zero_le _, rfl, rfl, rfl, rfl, ⟨range_congr fun j hj => by simp, by rw [AHeap.set_same _ _ _ hr1]; exact Own.nil ..⟩⟩ (fun n env L B G hI => ?_)
  obtain ⟨k, av, R, hk, rfl, rfl, rfl, rfl, hR, hown⟩ := hI
  have hGo : G bo = some (.box (.own rn 1 0 nn)) := hown.sub _ _ (by rw [AHeap.get_set_ne _ _ hbo]; exact ho1)
  have hGl : G bl = some (.box (encRs l)) := hown.sub _ _ (by rw [AHeap.get_set_ne _ _ hbl]; exact hl1)
  have hGc : G bc = some (.box (.int .i64 least)) := hown.sub _ _ (by rw [AHeap.get_set_ne _ _ hbc]; exact hc1)
  have hGr : G rn = some (.row 1 (R.map (.int .i64))) := hown.sub _ _ (AHeap.get_set _ _ _)
  have hRl : R.length = l.length := by rw [hR]; simp
  refine g_seq (fun K4 hK4 => ?_)
  refine g_region ?_
  refine g_step rfl (s_val (v_lss rfl rfl) rfl rfl ?_)
  refine g_nil ?_
  refine g_next hK4 ?_
  refine g_seq (fun K5 hK5 => ?_)
  refine g_cond rfl (fun hc11 => ?_) (fun hc11 => ?_)
  · try simp only [decide_eq_true_eq, decide_eq_false_iff_not, Bool.not_eq_true', Bool.not_eq_false', Bool.not_eq_eq_eq_not, Bool.not_true, Bool.not_false, Bool.and_eq_true, Bool.or_eq_true, Bool.or_eq_false_iff, beq_iff_eq, beq_eq_false_iff_ne, ne_eq, Int.not_lt, Int.not_le, Decidable.not_not] at hc11
    obtain ⟨x, hx⟩ := get_some (l := l) (k := k) (by omega)
    have hfk : R[k]? = some (F k) := by rw [hR, range_get _ (by omega)]; simp
    have hnf : nearF (adj l least) i F i = F i := by unfold nearF; rw [if_neg (by omega)]
    have hfi : R[i]? = some (F i) := by rw [hR, range_get _ hi]; simp only [hnf]; split <;> rfl
    have had := adj_eq (least := least) hxi hx
    have hnl := List.length_filter_le (nearP (adj l least) i F) (List.range k)
    rw [List.length_range] at hnl
    refine g_skip ?_
    refine g_next hK5 ?_
    refine g_seq (fun K6 hK6 => ?_)
    refine g_block ?_
    refine g_seq (fun K7 hK7 => ?_)
    refine g_region ?_
    refine g_step rfl (s_val (v_move rfl) rfl rfl ?_)
    refine g_step rfl (s_val (v_assign rfl) rfl rfl ?_)
    refine g_nil ?_
    refine g_next hK7 ?_
    refine g_seq (fun K8 hK8 => ?_)
    refine g_draw (n := 18) (fun j => !([] : List Nat).contains j) rfl rfl ?_
    refine m_take 0 true rfl rfl (by kernel_rfl) (by kernel_rfl) (by kernel_rfl) (fun _ _ _ _ h => h) (by first | exact v_load ty27 rfl rfl (by first | rfl | assumption) (by first | assumption | exact map_get (by assumption) | rfl) rfl | exact v_load_box ty27 rfl rfl hGo (by rfl)) rfl rfl ?_
    refine m_take 1 false rfl rfl (by kernel_rfl) (by kernel_rfl) (by kernel_rfl) (fun _ _ _ _ h => h) (v_move rfl) rfl rfl ?_
    refine m_take 2 false rfl rfl (by kernel_rfl) (by kernel_rfl) (by kernel_rfl) (fun _ _ _ _ h => h) (v_indexAddr ty27 ty3 rfl rfl (AV.view_own_all hGr (by rw [List.length_map]; omega)) (by first | rfl | exact (rfl : (0 : Int) = ((0 : Nat) : Int)) | exact (Int.toNat_of_nonneg (by omega)).symm) (map_get hfk) rfl) rfl rfl ?_
    refine m_take 3 true rfl rfl (by kernel_rfl) (by kernel_rfl) (by kernel_rfl) (fun _ _ _ _ h => h) (by first | exact v_load ty3 rfl rfl (AV.view_own_all hGr (by rw [List.length_map]; omega)) (map_get hfk) rfl | exact v_load_box ty3 rfl rfl (by assumption) rfl) rfl rfl ?_
    refine m_take 4 false rfl rfl (by kernel_rfl) (by kernel_rfl) (by kernel_rfl) (fun _ _ _ _ h => h) (v_lss rfl rfl) rfl rfl ?_
    refine m_take 5 false rfl rfl (by kernel_rfl) (by kernel_rfl) (by kernel_rfl) (fun _ _ _ _ h => h) (v_move rfl) rfl rfl ?_
    refine m_split 18 rfl (fun hg18 => ?_) (fun hg18 => ?_)
    · try simp only [decide_eq_true_eq, decide_eq_false_iff_not, Bool.not_eq_true', Bool.not_eq_false', Bool.not_eq_eq_eq_not, Bool.not_true, Bool.not_false, Bool.and_eq_true, Bool.or_eq_true, Bool.or_eq_false_iff, beq_iff_eq, beq_eq_false_iff_ne, ne_eq, Int.not_lt, Int.not_le, Decidable.not_not] at hg18
      refine m_take_yes (j := 5) (t := 18) 6 true rfl rfl rfl rfl rfl (by kernel_rfl) (by kernel_rfl) (by kernel_rfl) (fun _ _ _ _ h => h) (by first | exact v_load ty22 rfl rfl (by first | rfl | assumption) (by first | assumption | exact map_get (by assumption) | rfl) rfl | exact v_load_box ty22 rfl rfl hGl (by rfl)) rfl rfl ?_
      refine m_take_yes (j := 5) (t := 18) 7 false rfl rfl rfl rfl rfl (by kernel_rfl) (by kernel_rfl) (by kernel_rfl) (fun _ _ _ _ h => h) (v_move rfl) rfl rfl ?_
      refine m_take_yes (j := 5) (t := 18) 8 false rfl rfl rfl rfl rfl (by kernel_rfl) (by kernel_rfl) (by kernel_rfl) (fun _ _ _ _ h => h) (v_indexAddr ty22 ty32 rfl rfl (by first | rfl | assumption) (by first | rfl | exact (rfl : (0 : Int) = ((0 : Nat) : Int)) | exact (Int.toNat_of_nonneg (by omega)).symm) (map_get hxi) rfl) rfl rfl ?_
      refine m_take_yes (j := 5) (t := 18) 9 true rfl rfl rfl rfl rfl (by kernel_rfl) (by kernel_rfl) (by kernel_rfl) (fun _ _ _ _ h => h) (by first | exact v_load_elt ty32 rfl rfl (by first | rfl | assumption) (map_get hxi) rfl rfl | exact v_load_box_all ty32 rfl rfl (by assumption) rfl rfl | exact v_load_part (cs := [_, _, _, _, _, _, _]) ty32 rfl rfl (by first | rfl | assumption) (map_get hxi) rfl rfl rfl | exact v_load_box_part (cs := [_, _, _, _, _, _, _]) ty32 rfl rfl (by assumption) rfl rfl rfl) rfl rfl ?_
      refine m_take_yes (j := 5) (t := 18) 10 true rfl rfl rfl rfl rfl (by kernel_rfl) (by kernel_rfl) (by kernel_rfl) (fun _ _ _ _ h => h) (by first | exact v_load ty22 rfl rfl (by first | rfl | assumption) (by first | assumption | exact map_get (by assumption) | rfl) rfl | exact v_load_box ty22 rfl rfl hGl (by rfl)) rfl rfl ?_
      refine m_take_yes (j := 5) (t := 18) 11 false rfl rfl rfl rfl rfl (by kernel_rfl) (by kernel_rfl) (by kernel_rfl) (fun _ _ _ _ h => h) (v_move rfl) rfl rfl ?_
      refine m_take_yes (j := 5) (t := 18) 12 false rfl rfl rfl rfl rfl (by kernel_rfl) (by kernel_rfl) (by kernel_rfl) (fun _ _ _ _ h => h) (v_indexAddr ty22 ty32 rfl rfl (by first | rfl | assumption) (by first | rfl | exact (rfl : (0 : Int) = ((0 : Nat) : Int)) | exact (Int.toNat_of_nonneg (by omega)).symm) (map_get hx) rfl) rfl rfl ?_
      refine m_take_yes (j := 5) (t := 18) 13 true rfl rfl rfl rfl rfl (by kernel_rfl) (by kernel_rfl) (by kernel_rfl) (fun _ _ _ _ h => h) (by first | exact v_load_elt ty32 rfl rfl (by first | rfl | assumption) (map_get hx) rfl rfl | exact v_load_box_all ty32 rfl rfl (by assumption) rfl rfl | exact v_load_part (cs := [_, _, _, _, _, _, _]) ty32 rfl rfl (by first | rfl | assumption) (map_get hx) rfl rfl rfl | exact v_load_box_part (cs := [_, _, _, _, _, _, _]) ty32 rfl rfl (by assumption) rfl rfl rfl) rfl rfl ?_
      refine m_take_yes (j := 5) (t := 18) 15 true rfl rfl rfl rfl rfl (by kernel_rfl) (by kernel_rfl) (by kernel_rfl) (fun _ _ _ _ h => h) (by first | exact v_load ty3 rfl rfl (by first | rfl | assumption) (by first | assumption | exact map_get (by assumption) | rfl) rfl | exact v_load_box ty3 rfl rfl hGc (by rfl)) rfl rfl ?_
      refine m_one_yes (j := 5) (t := 18) 14 (by kernel_rfl) rfl rfl rfl rfl rfl ?_
      refine sm_callp rfl rfl rfl (link_ok xi x _) ?_
      rintro _ rfl
      refine m_take_yes (j := 5) (t := 18) 16 false rfl rfl rfl rfl rfl (by kernel_rfl) (by kernel_rfl) (by kernel_rfl) (fun _ _ _ _ h => h) (v_geq rfl rfl) rfl rfl ?_
      refine m_take 17 false rfl rfl (by kernel_rfl) (by kernel_rfl) (by kernel_rfl) (fun _ _ _ _ h => h) (v_pick_t rfl rfl) rfl rfl ?_
      refine m_done (by kernel_rfl) ?_
      refine g_next hK8 ?_
      first | refine g_keep [0, 1, 2, 3, 6, 7, 9, 10, 30] [] [] (keep_cons rfl (keep_cons rfl (keep_cons rfl (keep_cons rfl (keep_cons rfl (keep_cons rfl (keep_cons rfl (keep_cons rfl (keep_cons rfl keep_nil))))))))) lkeep_nil keep_nil rfl ?_ | refine g_keep [0, 1, 2, 3, 6, 7, 9, 10, 30] [] [] rfl rfl rfl rfl ?_
      refine g_cond rfl (fun hc30 => ?_) (fun hc30 => ?_)
      · try simp only [decide_eq_true_eq, decide_eq_false_iff_not, Bool.not_eq_true', Bool.not_eq_false', Bool.not_eq_eq_eq_not, Bool.not_true, Bool.not_false, Bool.and_eq_true, Bool.or_eq_true, Bool.or_eq_false_iff, beq_iff_eq, beq_eq_false_iff_ne, ne_eq, Int.not_lt, Int.not_le, Decidable.not_not] at hc30
        have hnp : nearP (adj l least) i F k = true := by rw [nearP, had]; simp; omega
        refine g_seq (fun K9 hK9 => ?_)
        refine g_draw (n := 9) (fun j => !([8] : List Nat).contains j) rfl rfl ?_
        refine m_take 0 true rfl rfl (by kernel_rfl) (by kernel_rfl) (by kernel_rfl) (fun _ _ _ _ h => h) (by first | exact v_load ty27 rfl rfl (by first | rfl | assumption) (by first | assumption | exact map_get (by assumption) | rfl) rfl | exact v_load_box ty27 rfl rfl hGo (by rfl)) rfl rfl ?_
        refine m_take 1 false rfl rfl (by kernel_rfl) (by kernel_rfl) (by kernel_rfl) (fun _ _ _ _ h => h) (v_move rfl) rfl rfl ?_
        refine m_take 2 true rfl rfl (by kernel_rfl) (by kernel_rfl) (by kernel_rfl) (fun _ _ _ _ h => h) (by first | exact v_load ty27 rfl rfl (by first | rfl | assumption) (by first | assumption | exact map_get (by assumption) | rfl) rfl | exact v_load_box ty27 rfl rfl hGo (by rfl)) rfl rfl ?_
        refine m_take 3 false rfl rfl (by kernel_rfl) (by kernel_rfl) (by kernel_rfl) (fun _ _ _ _ h => h) (v_move rfl) rfl rfl ?_
        refine m_take 4 false rfl rfl (by kernel_rfl) (by kernel_rfl) (by kernel_rfl) (fun _ _ _ _ h => h) (v_indexAddr ty27 ty3 rfl rfl (AV.view_own_all hGr (by rw [List.length_map]; omega)) (by first | rfl | exact (rfl : (0 : Int) = ((0 : Nat) : Int)) | exact (Int.toNat_of_nonneg (by omega)).symm) (map_get hfi) rfl) rfl rfl ?_
        refine m_take 5 true rfl rfl (by kernel_rfl) (by kernel_rfl) (by kernel_rfl) (fun _ _ _ _ h => h) (by first | exact v_load ty3 rfl rfl (AV.view_own_all hGr (by rw [List.length_map]; omega)) (map_get hfi) rfl | exact v_load_box ty3 rfl rfl (by assumption) rfl) rfl rfl ?_
        refine m_take 6 false rfl rfl (by kernel_rfl) (by kernel_rfl) (by kernel_rfl) (fun _ _ _ _ h => h) (v_add rfl rfl (by omega)) rfl rfl ?_
        refine m_take 7 false rfl rfl (by kernel_rfl) (by kernel_rfl) (by kernel_rfl) (fun _ _ _ _ h => h) (v_indexAddr ty27 ty3 rfl rfl (AV.view_own_all hGr (by rw [List.length_map]; omega)) (by first | rfl | exact (rfl : (0 : Int) = ((0 : Nat) : Int)) | exact (Int.toNat_of_nonneg (by omega)).symm) (map_get hfk) rfl) rfl rfl ?_
        refine m_one 8 (by kernel_rfl) rfl rfl ?_
        refine sm_any rfl (s_store_row (k := k) (off := 0) (old := .int .i64 (F k)) (new := .int .i64 (F i + 1)) ty3 rfl rfl hGr (by rw [Nat.zero_add]; exact map_get hfk) rfl rfl rfl rfl (.inl rfl) ?_)
        rw [Nat.zero_add k, ← List.map_set]
        have hown2 := own_put (.row 1 ((R.set k (F i + 1)).map (.int .i64))) hown (AHeap.get_set _ rn _)
        rw [AHeap.set_set] at hown2
        refine m_done (by kernel_rfl) ?_
        refine g_next hK9 ?_
        refine g_region ?_
        refine g_step rfl (s_val (v_move rfl) rfl rfl ?_)
        refine g_step rfl (s_val (v_move rfl) rfl rfl ?_)
        refine g_step rfl (s_lit ty27 ty3 rfl rfl rfl rfl rfl rfl rfl ?_)
        refine g_step rfl (s_append (l := ((((List.range k).filter (nearP (adj l least) i F)).map fun k : Nat => (k : Int)).map (.int .i64))) (m := ([(k : Int)].map (.int .i64))) ty27 ty3 rfl rfl hown2 rfl rfl (by refine Even.map _ ?_ _; intro _; rfl) (by intro x hx; obtain ⟨_, _, rfl⟩ := List.mem_map.1 hx; rfl) rfl (by simp; omega) (by simp; omega) ?_)
        intro av42 G42 hown42
        refine g_step rfl (s_val (v_assign rfl) rfl rfl ?_)
        refine g_nil ?_
        refine g_block_normal ?_
        refine g_next hK6 ?_
        refine g_region ?_
        skip
        refine g_step rfl (s_val (v_add rfl rfl (by omega)) rfl rfl ?_)
        refine g_step rfl (s_val (v_move rfl) rfl rfl ?_)
        refine g_nil ?_
        first | refine g_keep [0, 1, 2, 3, 6, 9, 10] [] [] (keep_cons rfl (keep_cons rfl (keep_cons rfl (keep_cons rfl (keep_cons rfl (keep_cons rfl (keep_cons rfl keep_nil))))))) lkeep_nil keep_nil rfl ?_ | refine g_keep [0, 1, 2, 3, 6, 9, 10] [] [] rfl rfl rfl rfl ?_
        first | exact g_round _ (by omega) ⟨k + 1, av42, R.set k (F i + 1), by omega, rfl, rfl, rfl, rfl, ⟨near_hit hR (by omega) hnp, by rw [List.range_succ, List.filter_append, List.map_append, List.map_append]; rw [show List.filter (nearP (adj l least) i F) [k] = [k] from by simp [hnp]]; exact hown42⟩⟩ | exact g_round _ (by omega) ⟨k + 1, av, R, by omega, rfl, rfl, rfl, rfl, ⟨near_miss hR (by omega) hnp, by rw [List.range_succ, List.filter_append, show List.filter (nearP (adj l least) i F) [k] = [] from by simp [hnp], List.append_nil]; exact hown⟩⟩
      · try simp only [decide_eq_true_eq, decide_eq_false_iff_not, Bool.not_eq_true', Bool.not_eq_false', Bool.not_eq_eq_eq_not, Bool.not_true, Bool.not_false, Bool.and_eq_true, Bool.or_eq_true, Bool.or_eq_false_iff, beq_iff_eq, beq_eq_false_iff_ne, ne_eq, Int.not_lt, Int.not_le, Decidable.not_not] at hc30
        have hnp : nearP (adj l least) i F k = false := by first | assumption | (rw [nearP, had]; simp; omega)
        refine g_skip ?_
        refine g_block_normal ?_
        refine g_next hK6 ?_
        refine g_region ?_
        skip
        refine g_step rfl (s_val (v_add rfl rfl (by omega)) rfl rfl ?_)
        refine g_step rfl (s_val (v_move rfl) rfl rfl ?_)
        refine g_nil ?_
        first | refine g_keep [0, 1, 2, 3, 6, 9, 10] [] [] (keep_cons rfl (keep_cons rfl (keep_cons rfl (keep_cons rfl (keep_cons rfl (keep_cons rfl (keep_cons rfl keep_nil))))))) lkeep_nil keep_nil rfl ?_ | refine g_keep [0, 1, 2, 3, 6, 9, 10] [] [] rfl rfl rfl rfl ?_
        first | exact g_round _ (by omega) ⟨k + 1, av42, R.set k (F i + 1), by omega, rfl, rfl, rfl, rfl, ⟨near_hit hR (by omega) hnp, by rw [List.range_succ, List.filter_append, List.map_append, List.map_append]; rw [show List.filter (nearP (adj l least) i F) [k] = [k] from by simp [hnp]]; exact hown42⟩⟩ | exact g_round _ (by omega) ⟨k + 1, av, R, by omega, rfl, rfl, rfl, rfl, ⟨near_miss hR (by omega) hnp, by rw [List.range_succ, List.filter_append, show List.filter (nearP (adj l least) i F) [k] = [] from by simp [hnp], List.append_nil]; exact hown⟩⟩
    · try simp only [decide_eq_true_eq, decide_eq_false_iff_not, Bool.not_eq_true', Bool.not_eq_false', Bool.not_eq_eq_eq_not, Bool.not_true, Bool.not_false, Bool.and_eq_true, Bool.or_eq_true, Bool.or_eq_false_iff, beq_iff_eq, beq_eq_false_iff_ne, ne_eq, Int.not_lt, Int.not_le, Decidable.not_not] at hg18
      have hnp : nearP (adj l least) i F k = false := by simp [nearP]; omega
      refine m_take_no (j := 5) (t := 18) 6 rfl rfl rfl rfl rfl rfl (by kernel_rfl) (by kernel_rfl) (by kernel_rfl) (fun _ _ _ _ h => h) rfl rfl ?_
      refine m_take_no (j := 5) (t := 18) 7 rfl rfl rfl rfl rfl rfl (by kernel_rfl) (by kernel_rfl) (by kernel_rfl) (fun _ _ _ _ h => h) rfl rfl ?_
      refine m_take_no (j := 5) (t := 18) 8 rfl rfl rfl rfl rfl rfl (by kernel_rfl) (by kernel_rfl) (by kernel_rfl) (fun _ _ _ _ h => h) rfl rfl ?_
      refine m_take_no (j := 5) (t := 18) 9 rfl rfl rfl rfl rfl rfl (by kernel_rfl) (by kernel_rfl) (by kernel_rfl) (fun _ _ _ _ h => h) rfl rfl ?_
      refine m_take_no (j := 5) (t := 18) 10 rfl rfl rfl rfl rfl rfl (by kernel_rfl) (by kernel_rfl) (by kernel_rfl) (fun _ _ _ _ h => h) rfl rfl ?_
      refine m_take_no (j := 5) (t := 18) 11 rfl rfl rfl rfl rfl rfl (by kernel_rfl) (by kernel_rfl) (by kernel_rfl) (fun _ _ _ _ h => h) rfl rfl ?_
      refine m_take_no (j := 5) (t := 18) 12 rfl rfl rfl rfl rfl rfl (by kernel_rfl) (by kernel_rfl) (by kernel_rfl) (fun _ _ _ _ h => h) rfl rfl ?_
      refine m_take_no (j := 5) (t := 18) 13 rfl rfl rfl rfl rfl rfl (by kernel_rfl) (by kernel_rfl) (by kernel_rfl) (fun _ _ _ _ h => h) rfl rfl ?_
      refine m_take_no (j := 5) (t := 18) 14 rfl rfl rfl rfl rfl rfl (by kernel_rfl) (by kernel_rfl) (by kernel_rfl) (fun _ _ _ _ h => h) rfl rfl ?_
      refine m_take_no (j := 5) (t := 18) 15 rfl rfl rfl rfl rfl rfl (by kernel_rfl) (by kernel_rfl) (by kernel_rfl) (fun _ _ _ _ h => h) rfl rfl ?_
      refine m_take_no (j := 5) (t := 18) 16 rfl rfl rfl rfl rfl rfl (by kernel_rfl) (by kernel_rfl) (by kernel_rfl) (fun _ _ _ _ h => h) rfl rfl ?_
      refine m_take 17 false rfl rfl (by kernel_rfl) (by kernel_rfl) (by kernel_rfl) (fun _ _ _ _ h => h) (v_pick_f rfl rfl) rfl rfl ?_
      refine m_done (by kernel_rfl) ?_
      refine g_next hK8 ?_
      first | refine g_keep [0, 1, 2, 3, 6, 7, 9, 10, 30] [] [] (keep_cons rfl (keep_cons rfl (keep_cons rfl (keep_cons rfl (keep_cons rfl (keep_cons rfl (keep_cons rfl (keep_cons rfl (keep_cons rfl keep_nil))))))))) lkeep_nil keep_nil rfl ?_ | refine g_keep [0, 1, 2, 3, 6, 7, 9, 10, 30] [] [] rfl rfl rfl rfl ?_
      refine g_cond rfl (fun h => by cases h) (fun _ => ?_)
      refine g_skip ?_
      refine g_block_normal ?_
      refine g_next hK6 ?_
      refine g_region ?_
      skip
      refine g_step rfl (s_val (v_add rfl rfl (by omega)) rfl rfl ?_)
      refine g_step rfl (s_val (v_move rfl) rfl rfl ?_)
      refine g_nil ?_
      first | refine g_keep [0, 1, 2, 3, 6, 9, 10] [] [] (keep_cons rfl (keep_cons rfl (keep_cons rfl (keep_cons rfl (keep_cons rfl (keep_cons rfl (keep_cons rfl keep_nil))))))) lkeep_nil keep_nil rfl ?_ | refine g_keep [0, 1, 2, 3, 6, 9, 10] [] [] rfl rfl rfl rfl ?_
      first | exact g_round _ (by omega) ⟨k + 1, av42, R.set k (F i + 1), by omega, rfl, rfl, rfl, rfl, ⟨near_hit hR (by omega) hnp, by rw [List.range_succ, List.filter_append, List.map_append, List.map_append]; rw [show List.filter (nearP (adj l least) i F) [k] = [k] from by simp [hnp]]; exact hown42⟩⟩ | exact g_round _ (by omega) ⟨k + 1, av, R, by omega, rfl, rfl, rfl, rfl, ⟨near_miss hR (by omega) hnp, by rw [List.range_succ, List.filter_append, show List.filter (nearP (adj l least) i F) [k] = [] from by simp [hnp], List.append_nil]; exact hown⟩⟩
  · try simp only [decide_eq_true_eq, decide_eq_false_iff_not, Bool.not_eq_true', Bool.not_eq_false', Bool.not_eq_eq_eq_not, Bool.not_true, Bool.not_false, Bool.and_eq_true, Bool.or_eq_true, Bool.or_eq_false_iff, beq_iff_eq, beq_eq_false_iff_ne, ne_eq, Int.not_lt, Int.not_le, Decidable.not_not] at hc11
    obtain rfl : k = l.length := by omega
    have hRN : R = (List.range l.length).map (nearF (adj l least) i F) := by rw [hR]; exact range_congr fun j hj => by simp only [hj, ↓reduceIte]
    refine g_exit ?_
    refine g_then_exit ?_
    refine g_then_exit ?_
    refine g_block_same ?_
    refine g_next hK2 ?_
    refine g_seq (fun K10 hK10 => ?_)
    refine g_region ?_
    refine g_freeze 6 rfl hown ?_
    rw [hRN]
    refine g_step rfl (s_val (v_move rfl) rfl rfl ?_)
    refine g_step rfl (s_val (v_assign rfl) rfl rfl ?_)
    refine g_nil ?_
    refine g_next hK10 ?_
    refine g_ret ?_
    refine g_end1 (.inl rfl) Try.results100 (.tmp rfl) [(rn, .row 1 (((List.range l.length).map (nearF (adj l least) i F)).map (.int .i64)))] (ASub.refl _) (AHeap.sub_refl _) (fun q hq => .inl (by simp at hq; subst hq; rw [hr]; simp)) ⟨rfl, rfl⟩

end Go.Proofs.Ytgedefcjngofkaa

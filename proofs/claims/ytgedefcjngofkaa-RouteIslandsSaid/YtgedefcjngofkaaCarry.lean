import Derived.Test.YtgedefcjngofkaaRec2
import Derived.Test.YtgedefcjngofkaaPCarry
set_option maxHeartbeats 8000000
set_option linter.unusedSimpArgs false
set_option linter.unusedVariables false
set_option maxRecDepth 100000
namespace Go.Proofs.Ytgedefcjngofkaa
open Go Go.Proofs.Ytgedefcjngofkaa.AM
theorem whole_ok (r : Rc) (G : AHeap) (hl : Small r.bag) : PCalls Try.prog 84 [encR r] G (fun v => v = encR r) := by
  refine LCalls.intro 8 fi84 rfl Try.ntmps84 rfl (fun _ h => h.elim) (fun H hH w0 hw0 => ?_)
  refine g_seq (fun K0 hK0 => ?_)
  refine g_region ?_
  refine g_step rfl (s_box rfl rfl rfl rfl ?_)
  refine g_step rfl (s_alloc (av := (.agg [(.int .i64 0), (.int .i64 0), (.int .i64 0), (.int .i64 0), (.int .i64 0), (.bool false), .nil0])) ty32 rfl rfl rfl rfl ?_)
  refine g_nil ?_
  refine g_next hK0 ?_
  refine g_seq (fun K1 hK1 => ?_)
  refine g_region ?_
  refine g_step rfl (s_val (by first | exact v_loadl_all ty32 rfl rfl rfl rfl rfl | exact v_loadl_part (cs := [_, _, _, _, _, _, _]) ty32 rfl rfl rfl rfl rfl rfl) rfl rfl ?_)
  refine g_step rfl (s_lit ty22 ty32 rfl rfl rfl rfl rfl rfl rfl ?_)
  refine g_step rfl (s_callp rfl rfl rfl (recCopy_ok [r] _ _ rfl (by simp) (by simpa using hl)) ?_)
  rintro _ rfl
  refine g_step rfl (s_val (v_indexAddr ty22 ty32 rfl rfl (by first | rfl | assumption) (by first | rfl | exact (rfl : (0 : Int) = ((0 : Nat) : Int)) | exact (Int.toNat_of_nonneg (by omega)).symm) rfl rfl) rfl rfl ?_)
  refine g_step rfl (s_val (by first | exact v_load_elt ty32 rfl rfl (by first | rfl | assumption) rfl rfl rfl | exact v_load_box_all ty32 rfl rfl (by assumption) rfl rfl | exact v_load_part (cs := [_, _, _, _, _, _, _]) ty32 rfl rfl (by first | rfl | assumption) rfl rfl rfl rfl | exact v_load_box_part (cs := [_, _, _, _, _, _, _]) ty32 rfl rfl (by assumption) rfl rfl rfl) rfl rfl ?_)
  refine g_step rfl (s_store_all ty32 rfl rfl rfl rfl rfl rfl ?_)
  refine g_nil ?_
  refine g_next hK1 ?_
  refine g_ret ?_
  refine g_end1 (.inl rfl) Try.results84 (.agg ty32 rfl rfl rfl rfl rfl) [] (ASub.refl _) (AHeap.sub_refl _) (fun p hp => by cases hp) ⟨rfl, ?_⟩
  rfl

theorem take_ok (r : Rc) (G : AHeap) (hl : Small r.bag) : PCalls Try.prog 103 [encR r] G (fun v => v = encR (ctake r)) := by
  refine LCalls.intro 11 fi103 rfl Try.ntmps103 rfl (fun _ h => h.elim) (fun H hH w0 hw0 => ?_)
  refine g_seq (fun K0 hK0 => ?_)
  refine g_region ?_
  refine g_step rfl (s_box rfl rfl rfl rfl ?_)
  refine g_step rfl (s_alloc (av := (.agg [(.int .i64 0), (.int .i64 0), (.int .i64 0), (.int .i64 0), (.int .i64 0), (.bool false), .nil0])) ty32 rfl rfl rfl rfl ?_)
  refine g_nil ?_
  refine g_next hK0 ?_
  refine g_seq (fun K1 hK1 => ?_)
  refine g_seq (fun K2 hK2 => ?_)
  refine g_region ?_
  refine g_step rfl (s_fieldAddr ty32 fo32_5 ty30 rfl rfl ?_)
  refine g_step rfl (s_val (v_loadl ty30 rfl rfl rfl rfl) rfl rfl ?_)
  refine g_step rfl (s_callp rfl rfl rfl (bagLight_ok r.bag _ _ rfl hl) ?_)
  rintro _ rfl
  refine g_step rfl (s_val (v_not rfl) rfl rfl ?_)
  refine g_nil ?_
  refine g_next hK2 ?_
  refine g_cond rfl (fun hc6 => ?_) (fun hc6 => ?_)
  · try simp only [decide_eq_true_eq, decide_eq_false_iff_not, Bool.not_eq_true', Bool.not_eq_false', Bool.not_eq_eq_eq_not, Bool.not_true, Bool.not_false, Bool.and_eq_true, Bool.or_eq_true, Bool.or_eq_false_iff, beq_iff_eq, beq_eq_false_iff_ne, ne_eq, Int.not_lt, Int.not_le, Decidable.not_not] at hc6
    refine g_seq (fun K3 hK3 => ?_)
    refine g_region ?_
    refine g_step rfl (s_val (by first | exact v_loadl_all ty32 rfl rfl rfl rfl rfl | exact v_loadl_part (cs := [_, _, _, _, _, _, _]) ty32 rfl rfl rfl rfl rfl rfl) rfl rfl ?_)
    refine g_step rfl (s_callp rfl rfl rfl (bare_ok _ _ (by assumption)) ?_)
    rintro _ rfl
    refine g_step rfl (s_store_all ty32 rfl rfl rfl rfl rfl rfl ?_)
    refine g_nil ?_
    refine g_next hK3 ?_
    refine g_ret ?_
    refine g_then_ret ?_
    refine g_end1 (.inl rfl) Try.results103 (.agg ty32 rfl rfl rfl rfl rfl) [] (ASub.refl _) (AHeap.sub_refl _) (fun p hp => by cases hp) ⟨rfl, ?_⟩
    first | (rw [ctake, if_neg (by omega)]; done) | (rw [ctake, if_neg (by omega)]; rfl)
  · try simp only [decide_eq_true_eq, decide_eq_false_iff_not, Bool.not_eq_true', Bool.not_eq_false', Bool.not_eq_eq_eq_not, Bool.not_true, Bool.not_false, Bool.and_eq_true, Bool.or_eq_true, Bool.or_eq_false_iff, beq_iff_eq, beq_eq_false_iff_ne, ne_eq, Int.not_lt, Int.not_le, Decidable.not_not] at hc6
    refine g_skip ?_
    refine g_next hK1 ?_
    refine g_seq (fun K4 hK4 => ?_)
    refine g_region ?_
    refine g_step rfl (s_val (by first | exact v_loadl_all ty32 rfl rfl rfl rfl rfl | exact v_loadl_part (cs := [_, _, _, _, _, _, _]) ty32 rfl rfl rfl rfl rfl rfl) rfl rfl ?_)
    refine g_step rfl (s_callp rfl rfl rfl (whole_ok _ _ (by assumption)) ?_)
    rintro _ rfl
    refine g_step rfl (s_store_all ty32 rfl rfl rfl rfl rfl rfl ?_)
    refine g_nil ?_
    refine g_next hK4 ?_
    refine g_ret ?_
    refine g_end1 (.inl rfl) Try.results103 (.agg ty32 rfl rfl rfl rfl rfl) [] (ASub.refl _) (AHeap.sub_refl _) (fun p hp => by cases hp) ⟨rfl, ?_⟩
    first | (rw [ctake, if_pos (by omega)]; done) | (rw [ctake, if_pos (by omega)]; rfl)

theorem send_ok (g : Int) (r : Rc) (G : AHeap) (hl : Small r.bag) : PCalls Try.prog 102 [.int .i64 g, encR r] G (fun v => v = .tup [encR (if csent g r then csend g r else rzero), .bool (csent g r)]) := by
  refine LCalls.intro 29 fi102 rfl Try.ntmps102 rfl (fun _ h => h.elim) (fun H hH w0 hw0 => ?_)
  refine g_seq (fun K0 hK0 => ?_)
  refine g_region ?_
  refine g_step rfl (s_box rfl rfl rfl rfl ?_)
  refine g_step rfl (s_alloc (av := (.agg [(.int .i64 0), (.int .i64 0), (.int .i64 0), (.int .i64 0), (.int .i64 0), (.bool false), .nil0])) ty32 rfl rfl rfl rfl ?_)
  refine g_step rfl (s_val (v_assign rfl) rfl rfl ?_)
  refine g_nil ?_
  refine g_next hK0 ?_
  refine g_seq (fun K1 hK1 => ?_)
  refine g_block ?_
  refine g_seq (fun K2 hK2 => ?_)
  refine g_region ?_
  refine g_step rfl (s_val (v_move rfl) rfl rfl ?_)
  refine g_step rfl (s_val (v_eql rfl rfl) rfl rfl ?_)
  refine g_step rfl (s_val (v_move rfl) rfl rfl ?_)
  refine g_split 9 rfl (fun hg9 => ?_) (fun hg9 => ?_)
  · try simp only [decide_eq_true_eq, decide_eq_false_iff_not, Bool.not_eq_true', Bool.not_eq_false', Bool.not_eq_eq_eq_not, Bool.not_true, Bool.not_false, Bool.and_eq_true, Bool.or_eq_true, Bool.or_eq_false_iff, beq_iff_eq, beq_eq_false_iff_ne, ne_eq, Int.not_lt, Int.not_le, Decidable.not_not] at hg9
    refine g_step_yes (j := 2) (t := 9) rfl rfl rfl rfl (s_fieldAddr ty32 fo32_1 ty3 rfl rfl ?_)
    refine g_step_yes (j := 2) (t := 9) rfl rfl rfl rfl (s_val (v_loadl ty3 rfl rfl rfl rfl) rfl rfl ?_)
    refine g_step_yes (j := 2) (t := 9) rfl rfl rfl rfl (s_val (v_leq rfl rfl) rfl rfl ?_)
    refine g_step rfl (s_val (v_pick_t rfl rfl) rfl rfl ?_)
    refine g_step rfl (s_val (v_assign rfl) rfl rfl ?_)
    refine g_nil ?_
    refine g_next hK2 ?_
    refine g_cond rfl (fun hc6 => ?_) (fun hc6 => ?_)
    · try simp only [decide_eq_true_eq, decide_eq_false_iff_not, Bool.not_eq_true', Bool.not_eq_false', Bool.not_eq_eq_eq_not, Bool.not_true, Bool.not_false, Bool.and_eq_true, Bool.or_eq_true, Bool.or_eq_false_iff, beq_iff_eq, beq_eq_false_iff_ne, ne_eq, Int.not_lt, Int.not_le, Decidable.not_not] at hc6
      refine g_seq (fun K3 hK3 => ?_)
      refine g_region ?_
      refine g_step rfl (s_val (by first | exact v_loadl_all ty32 rfl rfl rfl rfl rfl | exact v_loadl_part (cs := [_, _, _, _, _, _, _]) ty32 rfl rfl rfl rfl rfl rfl) rfl rfl ?_)
      refine g_step rfl (s_callp rfl rfl rfl (bare_ok _ _ (by assumption)) ?_)
      rintro _ rfl
      refine g_step rfl (s_store_all ty32 rfl rfl rfl rfl rfl rfl ?_)
      refine g_step rfl (s_val (v_assign rfl) rfl rfl ?_)
      refine g_nil ?_
      refine g_next hK3 ?_
      refine g_ret ?_
      refine g_block_ret ?_
      refine g_then_ret ?_
      refine g_end2 (.inl rfl) Try.results102 (.agg ty32 rfl rfl rfl rfl rfl) (.tmp rfl) [] (ASub.refl _) (AHeap.sub_refl _) (fun p hp => by cases hp) ⟨rfl, ?_⟩
      first | (rw [sent_yes (by omega), if_pos rfl, csend, if_pos (by omega)]; done) | (rw [sent_yes (by omega), if_pos rfl, csend, if_pos (by omega)]; rfl)
    · try simp only [decide_eq_true_eq, decide_eq_false_iff_not, Bool.not_eq_true', Bool.not_eq_false', Bool.not_eq_eq_eq_not, Bool.not_true, Bool.not_false, Bool.and_eq_true, Bool.or_eq_true, Bool.or_eq_false_iff, beq_iff_eq, beq_eq_false_iff_ne, ne_eq, Int.not_lt, Int.not_le, Decidable.not_not] at hc6
      refine g_seq (fun K4 hK4 => ?_)
      refine g_seq (fun K5 hK5 => ?_)
      refine g_region ?_
      refine g_step rfl (s_val (v_move rfl) rfl rfl ?_)
      refine g_step rfl (s_val (v_eql rfl rfl) rfl rfl ?_)
      refine g_step rfl (s_val (v_move rfl) rfl rfl ?_)
      refine g_split 19 rfl (fun hg19 => ?_) (fun hg19 => ?_)
      · try simp only [decide_eq_true_eq, decide_eq_false_iff_not, Bool.not_eq_true', Bool.not_eq_false', Bool.not_eq_eq_eq_not, Bool.not_true, Bool.not_false, Bool.and_eq_true, Bool.or_eq_true, Bool.or_eq_false_iff, beq_iff_eq, beq_eq_false_iff_ne, ne_eq, Int.not_lt, Int.not_le, Decidable.not_not] at hg19
        refine g_step_yes (j := 2) (t := 19) rfl rfl rfl rfl (s_fieldAddr ty32 fo32_1 ty3 rfl rfl ?_)
        refine g_step_yes (j := 2) (t := 19) rfl rfl rfl rfl (s_val (v_loadl ty3 rfl rfl rfl rfl) rfl rfl ?_)
        refine g_step_yes (j := 2) (t := 19) rfl rfl rfl rfl (s_val (v_leq rfl rfl) rfl rfl ?_)
        refine g_step rfl (s_val (v_pick_t rfl rfl) rfl rfl ?_)
        refine g_step rfl (s_val (v_assign rfl) rfl rfl ?_)
        refine g_nil ?_
        refine g_next hK5 ?_
        refine g_cond rfl (fun hc16 => ?_) (fun hc16 => ?_)
        · try simp only [decide_eq_true_eq, decide_eq_false_iff_not, Bool.not_eq_true', Bool.not_eq_false', Bool.not_eq_eq_eq_not, Bool.not_true, Bool.not_false, Bool.and_eq_true, Bool.or_eq_true, Bool.or_eq_false_iff, beq_iff_eq, beq_eq_false_iff_ne, ne_eq, Int.not_lt, Int.not_le, Decidable.not_not] at hc16
          refine g_skip ?_
          refine g_next hK4 ?_
          refine g_cond rfl (fun hc16 => ?_) (fun hc16 => ?_)
          · try simp only [decide_eq_true_eq, decide_eq_false_iff_not, Bool.not_eq_true', Bool.not_eq_false', Bool.not_eq_eq_eq_not, Bool.not_true, Bool.not_false, Bool.and_eq_true, Bool.or_eq_true, Bool.or_eq_false_iff, beq_iff_eq, beq_eq_false_iff_ne, ne_eq, Int.not_lt, Int.not_le, Decidable.not_not] at hc16
            refine g_seq (fun K6 hK6 => ?_)
            refine g_region ?_
            refine g_step rfl (s_val (by first | exact v_loadl_all ty32 rfl rfl rfl rfl rfl | exact v_loadl_part (cs := [_, _, _, _, _, _, _]) ty32 rfl rfl rfl rfl rfl rfl) rfl rfl ?_)
            refine g_step rfl (s_callp rfl rfl rfl (whole_ok _ _ (by assumption)) ?_)
            rintro _ rfl
            refine g_step rfl (s_store_all ty32 rfl rfl rfl rfl rfl rfl ?_)
            refine g_step rfl (s_val (v_assign rfl) rfl rfl ?_)
            refine g_nil ?_
            refine g_next hK6 ?_
            refine g_ret ?_
            refine g_block_ret ?_
            refine g_then_ret ?_
            refine g_end2 (.inl rfl) Try.results102 (.agg ty32 rfl rfl rfl rfl rfl) (.tmp rfl) [] (ASub.refl _) (AHeap.sub_refl _) (fun p hp => by cases hp) ⟨rfl, ?_⟩
            first | (rw [sent_yes (by omega), if_pos rfl, csend, if_neg (by omega)]; done) | (rw [sent_yes (by omega), if_pos rfl, csend, if_neg (by omega)]; rfl)
          · try simp only [decide_eq_true_eq, decide_eq_false_iff_not, Bool.not_eq_true', Bool.not_eq_false', Bool.not_eq_eq_eq_not, Bool.not_true, Bool.not_false, Bool.and_eq_true, Bool.or_eq_true, Bool.or_eq_false_iff, beq_iff_eq, beq_eq_false_iff_ne, ne_eq, Int.not_lt, Int.not_le, Decidable.not_not] at hc16
            refine g_skip ?_
            refine g_block_normal ?_
            refine g_next hK1 ?_
            refine g_seq (fun K7 hK7 => ?_)
            refine g_region ?_
            refine g_step rfl (s_val (v_sub (b := (encR rzero)) (v_build (vs := []) (zs := [(.int .i64 0), (.int .i64 0), (.int .i64 0), (.int .i64 0), (.int .i64 0), (.bool false), .nil0]) (cells := [_, _, _, _, _, _, _]) ty32 pl32 rfl rfl rfl) (ASub.of_wk rfl)) rfl rfl ?_)
            refine g_step rfl (s_store_all ty32 rfl rfl rfl rfl rfl rfl ?_)
            refine g_step rfl (s_val (v_assign rfl) rfl rfl ?_)
            refine g_nil ?_
            refine g_next hK7 ?_
            refine g_ret ?_
            refine g_end2 (.inl rfl) Try.results102 (.agg ty32 rfl rfl rfl rfl rfl) (.tmp rfl) [] (ASub.refl _) (AHeap.sub_refl _) (fun p hp => by cases hp) ⟨rfl, ?_⟩
            first | (rw [sent_no (by omega)]; rfl; done) | (rw [sent_no (by omega)]; rfl; rfl)
        · try simp only [decide_eq_true_eq, decide_eq_false_iff_not, Bool.not_eq_true', Bool.not_eq_false', Bool.not_eq_eq_eq_not, Bool.not_true, Bool.not_false, Bool.and_eq_true, Bool.or_eq_true, Bool.or_eq_false_iff, beq_iff_eq, beq_eq_false_iff_ne, ne_eq, Int.not_lt, Int.not_le, Decidable.not_not] at hc16
          refine g_region ?_
          refine g_step rfl (s_val (v_move rfl) rfl rfl ?_)
          refine g_step rfl (s_val (v_eql rfl rfl) rfl rfl ?_)
          refine g_step rfl (s_val (v_assign rfl) rfl rfl ?_)
          refine g_nil ?_
          refine g_next hK4 ?_
          refine g_cond rfl (fun hc16 => ?_) (fun hc16 => ?_)
          · try simp only [decide_eq_true_eq, decide_eq_false_iff_not, Bool.not_eq_true', Bool.not_eq_false', Bool.not_eq_eq_eq_not, Bool.not_true, Bool.not_false, Bool.and_eq_true, Bool.or_eq_true, Bool.or_eq_false_iff, beq_iff_eq, beq_eq_false_iff_ne, ne_eq, Int.not_lt, Int.not_le, Decidable.not_not] at hc16
            refine g_seq (fun K8 hK8 => ?_)
            refine g_region ?_
            refine g_step rfl (s_val (by first | exact v_loadl_all ty32 rfl rfl rfl rfl rfl | exact v_loadl_part (cs := [_, _, _, _, _, _, _]) ty32 rfl rfl rfl rfl rfl rfl) rfl rfl ?_)
            refine g_step rfl (s_callp rfl rfl rfl (whole_ok _ _ (by assumption)) ?_)
            rintro _ rfl
            refine g_step rfl (s_store_all ty32 rfl rfl rfl rfl rfl rfl ?_)
            refine g_step rfl (s_val (v_assign rfl) rfl rfl ?_)
            refine g_nil ?_
            refine g_next hK8 ?_
            refine g_ret ?_
            refine g_block_ret ?_
            refine g_then_ret ?_
            refine g_end2 (.inl rfl) Try.results102 (.agg ty32 rfl rfl rfl rfl rfl) (.tmp rfl) [] (ASub.refl _) (AHeap.sub_refl _) (fun p hp => by cases hp) ⟨rfl, ?_⟩
            first | (rw [sent_yes (by omega), if_pos rfl, csend, if_neg (by omega)]; done) | (rw [sent_yes (by omega), if_pos rfl, csend, if_neg (by omega)]; rfl)
          · try simp only [decide_eq_true_eq, decide_eq_false_iff_not, Bool.not_eq_true', Bool.not_eq_false', Bool.not_eq_eq_eq_not, Bool.not_true, Bool.not_false, Bool.and_eq_true, Bool.or_eq_true, Bool.or_eq_false_iff, beq_iff_eq, beq_eq_false_iff_ne, ne_eq, Int.not_lt, Int.not_le, Decidable.not_not] at hc16
            refine g_skip ?_
            refine g_block_normal ?_
            refine g_next hK1 ?_
            refine g_seq (fun K9 hK9 => ?_)
            refine g_region ?_
            refine g_step rfl (s_val (v_sub (b := (encR rzero)) (v_build (vs := []) (zs := [(.int .i64 0), (.int .i64 0), (.int .i64 0), (.int .i64 0), (.int .i64 0), (.bool false), .nil0]) (cells := [_, _, _, _, _, _, _]) ty32 pl32 rfl rfl rfl) (ASub.of_wk rfl)) rfl rfl ?_)
            refine g_step rfl (s_store_all ty32 rfl rfl rfl rfl rfl rfl ?_)
            refine g_step rfl (s_val (v_assign rfl) rfl rfl ?_)
            refine g_nil ?_
            refine g_next hK9 ?_
            refine g_ret ?_
            refine g_end2 (.inl rfl) Try.results102 (.agg ty32 rfl rfl rfl rfl rfl) (.tmp rfl) [] (ASub.refl _) (AHeap.sub_refl _) (fun p hp => by cases hp) ⟨rfl, ?_⟩
            first | (rw [sent_no (by omega)]; rfl; done) | (rw [sent_no (by omega)]; rfl; rfl)
      · try simp only [decide_eq_true_eq, decide_eq_false_iff_not, Bool.not_eq_true', Bool.not_eq_false', Bool.not_eq_eq_eq_not, Bool.not_true, Bool.not_false, Bool.and_eq_true, Bool.or_eq_true, Bool.or_eq_false_iff, beq_iff_eq, beq_eq_false_iff_ne, ne_eq, Int.not_lt, Int.not_le, Decidable.not_not] at hg19
        refine g_step_no (j := 2) (t := 19) rfl rfl rfl rfl rfl rfl rfl ?_
        refine g_step_no (j := 2) (t := 19) rfl rfl rfl rfl rfl rfl rfl ?_
        refine g_step_no (j := 2) (t := 19) rfl rfl rfl rfl rfl rfl rfl ?_
        refine g_step rfl (s_val (v_pick_f rfl rfl) rfl rfl ?_)
        refine g_step rfl (s_val (v_assign rfl) rfl rfl ?_)
        refine g_nil ?_
        refine g_next hK5 ?_
        refine g_cond rfl (fun h => by cases h) (fun _ => ?_)
        refine g_region ?_
        refine g_step rfl (s_val (v_move rfl) rfl rfl ?_)
        refine g_step rfl (s_val (v_eql rfl rfl) rfl rfl ?_)
        refine g_step rfl (s_val (v_assign rfl) rfl rfl ?_)
        refine g_nil ?_
        refine g_next hK4 ?_
        refine g_cond rfl (fun hc16 => ?_) (fun hc16 => ?_)
        · try simp only [decide_eq_true_eq, decide_eq_false_iff_not, Bool.not_eq_true', Bool.not_eq_false', Bool.not_eq_eq_eq_not, Bool.not_true, Bool.not_false, Bool.and_eq_true, Bool.or_eq_true, Bool.or_eq_false_iff, beq_iff_eq, beq_eq_false_iff_ne, ne_eq, Int.not_lt, Int.not_le, Decidable.not_not] at hc16
          refine g_seq (fun K10 hK10 => ?_)
          refine g_region ?_
          refine g_step rfl (s_val (by first | exact v_loadl_all ty32 rfl rfl rfl rfl rfl | exact v_loadl_part (cs := [_, _, _, _, _, _, _]) ty32 rfl rfl rfl rfl rfl rfl) rfl rfl ?_)
          refine g_step rfl (s_callp rfl rfl rfl (whole_ok _ _ (by assumption)) ?_)
          rintro _ rfl
          refine g_step rfl (s_store_all ty32 rfl rfl rfl rfl rfl rfl ?_)
          refine g_step rfl (s_val (v_assign rfl) rfl rfl ?_)
          refine g_nil ?_
          refine g_next hK10 ?_
          refine g_ret ?_
          refine g_block_ret ?_
          refine g_then_ret ?_
          refine g_end2 (.inl rfl) Try.results102 (.agg ty32 rfl rfl rfl rfl rfl) (.tmp rfl) [] (ASub.refl _) (AHeap.sub_refl _) (fun p hp => by cases hp) ⟨rfl, ?_⟩
          first | (rw [sent_yes (by omega), if_pos rfl, csend, if_neg (by omega)]; done) | (rw [sent_yes (by omega), if_pos rfl, csend, if_neg (by omega)]; rfl)
        · try simp only [decide_eq_true_eq, decide_eq_false_iff_not, Bool.not_eq_true', Bool.not_eq_false', Bool.not_eq_eq_eq_not, Bool.not_true, Bool.not_false, Bool.and_eq_true, Bool.or_eq_true, Bool.or_eq_false_iff, beq_iff_eq, beq_eq_false_iff_ne, ne_eq, Int.not_lt, Int.not_le, Decidable.not_not] at hc16
          refine g_skip ?_
          refine g_block_normal ?_
          refine g_next hK1 ?_
          refine g_seq (fun K11 hK11 => ?_)
          refine g_region ?_
          refine g_step rfl (s_val (v_sub (b := (encR rzero)) (v_build (vs := []) (zs := [(.int .i64 0), (.int .i64 0), (.int .i64 0), (.int .i64 0), (.int .i64 0), (.bool false), .nil0]) (cells := [_, _, _, _, _, _, _]) ty32 pl32 rfl rfl rfl) (ASub.of_wk rfl)) rfl rfl ?_)
          refine g_step rfl (s_store_all ty32 rfl rfl rfl rfl rfl rfl ?_)
          refine g_step rfl (s_val (v_assign rfl) rfl rfl ?_)
          refine g_nil ?_
          refine g_next hK11 ?_
          refine g_ret ?_
          refine g_end2 (.inl rfl) Try.results102 (.agg ty32 rfl rfl rfl rfl rfl) (.tmp rfl) [] (ASub.refl _) (AHeap.sub_refl _) (fun p hp => by cases hp) ⟨rfl, ?_⟩
          first | (rw [sent_no (by omega)]; rfl; done) | (rw [sent_no (by omega)]; rfl; rfl)
  · try simp only [decide_eq_true_eq, decide_eq_false_iff_not, Bool.not_eq_true', Bool.not_eq_false', Bool.not_eq_eq_eq_not, Bool.not_true, Bool.not_false, Bool.and_eq_true, Bool.or_eq_true, Bool.or_eq_false_iff, beq_iff_eq, beq_eq_false_iff_ne, ne_eq, Int.not_lt, Int.not_le, Decidable.not_not] at hg9
    refine g_step_no (j := 2) (t := 9) rfl rfl rfl rfl rfl rfl rfl ?_
    refine g_step_no (j := 2) (t := 9) rfl rfl rfl rfl rfl rfl rfl ?_
    refine g_step_no (j := 2) (t := 9) rfl rfl rfl rfl rfl rfl rfl ?_
    refine g_step rfl (s_val (v_pick_f rfl rfl) rfl rfl ?_)
    refine g_step rfl (s_val (v_assign rfl) rfl rfl ?_)
    refine g_nil ?_
    refine g_next hK2 ?_
    refine g_cond rfl (fun h => by cases h) (fun _ => ?_)
    refine g_seq (fun K12 hK12 => ?_)
    refine g_seq (fun K13 hK13 => ?_)
    refine g_region ?_
    refine g_step rfl (s_val (v_move rfl) rfl rfl ?_)
    refine g_step rfl (s_val (v_eql rfl rfl) rfl rfl ?_)
    refine g_step rfl (s_val (v_move rfl) rfl rfl ?_)
    refine g_split 19 rfl (fun hg19 => ?_) (fun hg19 => ?_)
    · try simp only [decide_eq_true_eq, decide_eq_false_iff_not, Bool.not_eq_true', Bool.not_eq_false', Bool.not_eq_eq_eq_not, Bool.not_true, Bool.not_false, Bool.and_eq_true, Bool.or_eq_true, Bool.or_eq_false_iff, beq_iff_eq, beq_eq_false_iff_ne, ne_eq, Int.not_lt, Int.not_le, Decidable.not_not] at hg19
      refine g_step_yes (j := 2) (t := 19) rfl rfl rfl rfl (s_fieldAddr ty32 fo32_1 ty3 rfl rfl ?_)
      refine g_step_yes (j := 2) (t := 19) rfl rfl rfl rfl (s_val (v_loadl ty3 rfl rfl rfl rfl) rfl rfl ?_)
      refine g_step_yes (j := 2) (t := 19) rfl rfl rfl rfl (s_val (v_leq rfl rfl) rfl rfl ?_)
      refine g_step rfl (s_val (v_pick_t rfl rfl) rfl rfl ?_)
      refine g_step rfl (s_val (v_assign rfl) rfl rfl ?_)
      refine g_nil ?_
      refine g_next hK13 ?_
      refine g_cond rfl (fun hc16 => ?_) (fun hc16 => ?_)
      · try simp only [decide_eq_true_eq, decide_eq_false_iff_not, Bool.not_eq_true', Bool.not_eq_false', Bool.not_eq_eq_eq_not, Bool.not_true, Bool.not_false, Bool.and_eq_true, Bool.or_eq_true, Bool.or_eq_false_iff, beq_iff_eq, beq_eq_false_iff_ne, ne_eq, Int.not_lt, Int.not_le, Decidable.not_not] at hc16
        refine g_skip ?_
        refine g_next hK12 ?_
        refine g_cond rfl (fun hc16 => ?_) (fun hc16 => ?_)
        · try simp only [decide_eq_true_eq, decide_eq_false_iff_not, Bool.not_eq_true', Bool.not_eq_false', Bool.not_eq_eq_eq_not, Bool.not_true, Bool.not_false, Bool.and_eq_true, Bool.or_eq_true, Bool.or_eq_false_iff, beq_iff_eq, beq_eq_false_iff_ne, ne_eq, Int.not_lt, Int.not_le, Decidable.not_not] at hc16
          refine g_seq (fun K14 hK14 => ?_)
          refine g_region ?_
          refine g_step rfl (s_val (by first | exact v_loadl_all ty32 rfl rfl rfl rfl rfl | exact v_loadl_part (cs := [_, _, _, _, _, _, _]) ty32 rfl rfl rfl rfl rfl rfl) rfl rfl ?_)
          refine g_step rfl (s_callp rfl rfl rfl (whole_ok _ _ (by assumption)) ?_)
          rintro _ rfl
          refine g_step rfl (s_store_all ty32 rfl rfl rfl rfl rfl rfl ?_)
          refine g_step rfl (s_val (v_assign rfl) rfl rfl ?_)
          refine g_nil ?_
          refine g_next hK14 ?_
          refine g_ret ?_
          refine g_block_ret ?_
          refine g_then_ret ?_
          refine g_end2 (.inl rfl) Try.results102 (.agg ty32 rfl rfl rfl rfl rfl) (.tmp rfl) [] (ASub.refl _) (AHeap.sub_refl _) (fun p hp => by cases hp) ⟨rfl, ?_⟩
          first | (rw [sent_yes (by omega), if_pos rfl, csend, if_neg (by omega)]; done) | (rw [sent_yes (by omega), if_pos rfl, csend, if_neg (by omega)]; rfl)
        · try simp only [decide_eq_true_eq, decide_eq_false_iff_not, Bool.not_eq_true', Bool.not_eq_false', Bool.not_eq_eq_eq_not, Bool.not_true, Bool.not_false, Bool.and_eq_true, Bool.or_eq_true, Bool.or_eq_false_iff, beq_iff_eq, beq_eq_false_iff_ne, ne_eq, Int.not_lt, Int.not_le, Decidable.not_not] at hc16
          refine g_skip ?_
          refine g_block_normal ?_
          refine g_next hK1 ?_
          refine g_seq (fun K15 hK15 => ?_)
          refine g_region ?_
          refine g_step rfl (s_val (v_sub (b := (encR rzero)) (v_build (vs := []) (zs := [(.int .i64 0), (.int .i64 0), (.int .i64 0), (.int .i64 0), (.int .i64 0), (.bool false), .nil0]) (cells := [_, _, _, _, _, _, _]) ty32 pl32 rfl rfl rfl) (ASub.of_wk rfl)) rfl rfl ?_)
          refine g_step rfl (s_store_all ty32 rfl rfl rfl rfl rfl rfl ?_)
          refine g_step rfl (s_val (v_assign rfl) rfl rfl ?_)
          refine g_nil ?_
          refine g_next hK15 ?_
          refine g_ret ?_
          refine g_end2 (.inl rfl) Try.results102 (.agg ty32 rfl rfl rfl rfl rfl) (.tmp rfl) [] (ASub.refl _) (AHeap.sub_refl _) (fun p hp => by cases hp) ⟨rfl, ?_⟩
          first | (rw [sent_no (by omega)]; rfl; done) | (rw [sent_no (by omega)]; rfl; rfl)
      · try simp only [decide_eq_true_eq, decide_eq_false_iff_not, Bool.not_eq_true', Bool.not_eq_false', Bool.not_eq_eq_eq_not, Bool.not_true, Bool.not_false, Bool.and_eq_true, Bool.or_eq_true, Bool.or_eq_false_iff, beq_iff_eq, beq_eq_false_iff_ne, ne_eq, Int.not_lt, Int.not_le, Decidable.not_not] at hc16
        refine g_region ?_
        refine g_step rfl (s_val (v_move rfl) rfl rfl ?_)
        refine g_step rfl (s_val (v_eql rfl rfl) rfl rfl ?_)
        refine g_step rfl (s_val (v_assign rfl) rfl rfl ?_)
        refine g_nil ?_
        refine g_next hK12 ?_
        refine g_cond rfl (fun hc16 => ?_) (fun hc16 => ?_)
        · try simp only [decide_eq_true_eq, decide_eq_false_iff_not, Bool.not_eq_true', Bool.not_eq_false', Bool.not_eq_eq_eq_not, Bool.not_true, Bool.not_false, Bool.and_eq_true, Bool.or_eq_true, Bool.or_eq_false_iff, beq_iff_eq, beq_eq_false_iff_ne, ne_eq, Int.not_lt, Int.not_le, Decidable.not_not] at hc16
          refine g_seq (fun K16 hK16 => ?_)
          refine g_region ?_
          refine g_step rfl (s_val (by first | exact v_loadl_all ty32 rfl rfl rfl rfl rfl | exact v_loadl_part (cs := [_, _, _, _, _, _, _]) ty32 rfl rfl rfl rfl rfl rfl) rfl rfl ?_)
          refine g_step rfl (s_callp rfl rfl rfl (whole_ok _ _ (by assumption)) ?_)
          rintro _ rfl
          refine g_step rfl (s_store_all ty32 rfl rfl rfl rfl rfl rfl ?_)
          refine g_step rfl (s_val (v_assign rfl) rfl rfl ?_)
          refine g_nil ?_
          refine g_next hK16 ?_
          refine g_ret ?_
          refine g_block_ret ?_
          refine g_then_ret ?_
          refine g_end2 (.inl rfl) Try.results102 (.agg ty32 rfl rfl rfl rfl rfl) (.tmp rfl) [] (ASub.refl _) (AHeap.sub_refl _) (fun p hp => by cases hp) ⟨rfl, ?_⟩
          first | (rw [sent_yes (by omega), if_pos rfl, csend, if_neg (by omega)]; done) | (rw [sent_yes (by omega), if_pos rfl, csend, if_neg (by omega)]; rfl)
        · try simp only [decide_eq_true_eq, decide_eq_false_iff_not, Bool.not_eq_true', Bool.not_eq_false', Bool.not_eq_eq_eq_not, Bool.not_true, Bool.not_false, Bool.and_eq_true, Bool.or_eq_true, Bool.or_eq_false_iff, beq_iff_eq, beq_eq_false_iff_ne, ne_eq, Int.not_lt, Int.not_le, Decidable.not_not] at hc16
          refine g_skip ?_
          refine g_block_normal ?_
          refine g_next hK1 ?_
          refine g_seq (fun K17 hK17 => ?_)
          refine g_region ?_
          refine g_step rfl (s_val (v_sub (b := (encR rzero)) (v_build (vs := []) (zs := [(.int .i64 0), (.int .i64 0), (.int .i64 0), (.int .i64 0), (.int .i64 0), (.bool false), .nil0]) (cells := [_, _, _, _, _, _, _]) ty32 pl32 rfl rfl rfl) (ASub.of_wk rfl)) rfl rfl ?_)
          refine g_step rfl (s_store_all ty32 rfl rfl rfl rfl rfl rfl ?_)
          refine g_step rfl (s_val (v_assign rfl) rfl rfl ?_)
          refine g_nil ?_
          refine g_next hK17 ?_
          refine g_ret ?_
          refine g_end2 (.inl rfl) Try.results102 (.agg ty32 rfl rfl rfl rfl rfl) (.tmp rfl) [] (ASub.refl _) (AHeap.sub_refl _) (fun p hp => by cases hp) ⟨rfl, ?_⟩
          first | (rw [sent_no (by omega)]; rfl; done) | (rw [sent_no (by omega)]; rfl; rfl)
    · try simp only [decide_eq_true_eq, decide_eq_false_iff_not, Bool.not_eq_true', Bool.not_eq_false', Bool.not_eq_eq_eq_not, Bool.not_true, Bool.not_false, Bool.and_eq_true, Bool.or_eq_true, Bool.or_eq_false_iff, beq_iff_eq, beq_eq_false_iff_ne, ne_eq, Int.not_lt, Int.not_le, Decidable.not_not] at hg19
      refine g_step_no (j := 2) (t := 19) rfl rfl rfl rfl rfl rfl rfl ?_
      refine g_step_no (j := 2) (t := 19) rfl rfl rfl rfl rfl rfl rfl ?_
      refine g_step_no (j := 2) (t := 19) rfl rfl rfl rfl rfl rfl rfl ?_
      refine g_step rfl (s_val (v_pick_f rfl rfl) rfl rfl ?_)
      refine g_step rfl (s_val (v_assign rfl) rfl rfl ?_)
      refine g_nil ?_
      refine g_next hK13 ?_
      refine g_cond rfl (fun h => by cases h) (fun _ => ?_)
      refine g_region ?_
      refine g_step rfl (s_val (v_move rfl) rfl rfl ?_)
      refine g_step rfl (s_val (v_eql rfl rfl) rfl rfl ?_)
      refine g_step rfl (s_val (v_assign rfl) rfl rfl ?_)
      refine g_nil ?_
      refine g_next hK12 ?_
      refine g_cond rfl (fun hc16 => ?_) (fun hc16 => ?_)
      · try simp only [decide_eq_true_eq, decide_eq_false_iff_not, Bool.not_eq_true', Bool.not_eq_false', Bool.not_eq_eq_eq_not, Bool.not_true, Bool.not_false, Bool.and_eq_true, Bool.or_eq_true, Bool.or_eq_false_iff, beq_iff_eq, beq_eq_false_iff_ne, ne_eq, Int.not_lt, Int.not_le, Decidable.not_not] at hc16
        refine g_seq (fun K18 hK18 => ?_)
        refine g_region ?_
        refine g_step rfl (s_val (by first | exact v_loadl_all ty32 rfl rfl rfl rfl rfl | exact v_loadl_part (cs := [_, _, _, _, _, _, _]) ty32 rfl rfl rfl rfl rfl rfl) rfl rfl ?_)
        refine g_step rfl (s_callp rfl rfl rfl (whole_ok _ _ (by assumption)) ?_)
        rintro _ rfl
        refine g_step rfl (s_store_all ty32 rfl rfl rfl rfl rfl rfl ?_)
        refine g_step rfl (s_val (v_assign rfl) rfl rfl ?_)
        refine g_nil ?_
        refine g_next hK18 ?_
        refine g_ret ?_
        refine g_block_ret ?_
        refine g_then_ret ?_
        refine g_end2 (.inl rfl) Try.results102 (.agg ty32 rfl rfl rfl rfl rfl) (.tmp rfl) [] (ASub.refl _) (AHeap.sub_refl _) (fun p hp => by cases hp) ⟨rfl, ?_⟩
        first | (rw [sent_yes (by omega), if_pos rfl, csend, if_neg (by omega)]; done) | (rw [sent_yes (by omega), if_pos rfl, csend, if_neg (by omega)]; rfl)
      · try simp only [decide_eq_true_eq, decide_eq_false_iff_not, Bool.not_eq_true', Bool.not_eq_false', Bool.not_eq_eq_eq_not, Bool.not_true, Bool.not_false, Bool.and_eq_true, Bool.or_eq_true, Bool.or_eq_false_iff, beq_iff_eq, beq_eq_false_iff_ne, ne_eq, Int.not_lt, Int.not_le, Decidable.not_not] at hc16
        refine g_skip ?_
        refine g_block_normal ?_
        refine g_next hK1 ?_
        refine g_seq (fun K19 hK19 => ?_)
        refine g_region ?_
        refine g_step rfl (s_val (v_sub (b := (encR rzero)) (v_build (vs := []) (zs := [(.int .i64 0), (.int .i64 0), (.int .i64 0), (.int .i64 0), (.int .i64 0), (.bool false), .nil0]) (cells := [_, _, _, _, _, _, _]) ty32 pl32 rfl rfl rfl) (ASub.of_wk rfl)) rfl rfl ?_)
        refine g_step rfl (s_store_all ty32 rfl rfl rfl rfl rfl rfl ?_)
        refine g_step rfl (s_val (v_assign rfl) rfl rfl ?_)
        refine g_nil ?_
        refine g_next hK19 ?_
        refine g_ret ?_
        refine g_end2 (.inl rfl) Try.results102 (.agg ty32 rfl rfl rfl rfl rfl) (.tmp rfl) [] (ASub.refl _) (AHeap.sub_refl _) (fun p hp => by cases hp) ⟨rfl, ?_⟩
        first | (rw [sent_no (by omega)]; rfl; done) | (rw [sent_no (by omega)]; rfl; rfl)

theorem hop_ok (g : Int) (r : Rc) (G : AHeap) (hl : Small r.bag) : PCalls Try.prog 85 [.int .i64 g, encR r] G (fun v => v = .tup [encR (if csent g r then chop g r else rzero), .bool (csent g r)]) := by
  refine LCalls.intro 19 fi85 rfl Try.ntmps85 rfl (fun _ h => h.elim) (fun H hH w0 hw0 => ?_)
  refine g_seq (fun K0 hK0 => ?_)
  refine g_region ?_
  refine g_step rfl (s_box rfl rfl rfl rfl ?_)
  refine g_step rfl (s_alloc (av := (.agg [(.int .i64 0), (.int .i64 0), (.int .i64 0), (.int .i64 0), (.int .i64 0), (.bool false), .nil0])) ty32 rfl rfl rfl rfl ?_)
  refine g_step rfl (s_val (v_assign rfl) rfl rfl ?_)
  refine g_nil ?_
  refine g_next hK0 ?_
  refine g_seq (fun K1 hK1 => ?_)
  refine g_region ?_
  refine g_step rfl (s_val (v_move rfl) rfl rfl ?_)
  refine g_step rfl (s_val (by first | exact v_loadl_all ty32 rfl rfl rfl rfl rfl | exact v_loadl_part (cs := [_, _, _, _, _, _, _]) ty32 rfl rfl rfl rfl rfl rfl) rfl rfl ?_)
  refine g_step rfl (s_callp rfl rfl rfl (send_ok g r _ hl) ?_)
  rintro _ rfl
  refine g_step rfl (s_val (v_move rfl) rfl rfl ?_)
  refine g_step rfl (s_val (v_extract rfl rfl) rfl rfl ?_)
  refine g_step rfl (s_val (v_extract rfl rfl) rfl rfl ?_)
  refine g_step rfl (s_alloc (av := (.agg [(.int .i64 0), (.int .i64 0), (.int .i64 0), (.int .i64 0), (.int .i64 0), (.bool false), .nil0])) ty32 rfl rfl rfl rfl ?_)
  refine g_step rfl (s_store_all ty32 rfl rfl rfl rfl rfl rfl ?_)
  refine g_step rfl (s_val (v_assign rfl) rfl rfl ?_)
  refine g_nil ?_
  refine g_next hK1 ?_
  refine g_seq (fun K2 hK2 => ?_)
  refine g_seq (fun K3 hK3 => ?_)
  refine g_region ?_
  refine g_step rfl (s_val (v_move rfl) rfl rfl ?_)
  refine g_step rfl (s_val (v_not rfl) rfl rfl ?_)
  refine g_nil ?_
  refine g_next hK3 ?_
  refine g_cond rfl (fun hc15 => ?_) (fun hc15 => ?_)
  · try simp only [decide_eq_true_eq, decide_eq_false_iff_not, Bool.not_eq_true', Bool.not_eq_false', Bool.not_eq_eq_eq_not, Bool.not_true, Bool.not_false, Bool.and_eq_true, Bool.or_eq_true, Bool.or_eq_false_iff, beq_iff_eq, beq_eq_false_iff_ne, ne_eq, Int.not_lt, Int.not_le, Decidable.not_not] at hc15
    refine g_seq (fun K4 hK4 => ?_)
    refine g_region ?_
    refine g_step rfl (s_val (v_sub (b := (encR rzero)) (v_build (vs := []) (zs := [(.int .i64 0), (.int .i64 0), (.int .i64 0), (.int .i64 0), (.int .i64 0), (.bool false), .nil0]) (cells := [_, _, _, _, _, _, _]) ty32 pl32 rfl rfl rfl) (ASub.of_wk rfl)) rfl rfl ?_)
    refine g_step rfl (s_store_all ty32 rfl rfl rfl rfl rfl rfl ?_)
    refine g_step rfl (s_val (v_assign rfl) rfl rfl ?_)
    refine g_nil ?_
    refine g_next hK4 ?_
    refine g_ret ?_
    refine g_then_ret ?_
    refine g_end2 (.inl rfl) Try.results85 (.agg ty32 rfl rfl rfl rfl rfl) (.tmp rfl) [] (ASub.refl _) (AHeap.sub_refl _) (fun p hp => by cases hp) ⟨rfl, ?_⟩
    first | (simp_all; done) | (simp_all; rfl)
  · try simp only [decide_eq_true_eq, decide_eq_false_iff_not, Bool.not_eq_true', Bool.not_eq_false', Bool.not_eq_eq_eq_not, Bool.not_true, Bool.not_false, Bool.and_eq_true, Bool.or_eq_true, Bool.or_eq_false_iff, beq_iff_eq, beq_eq_false_iff_ne, ne_eq, Int.not_lt, Int.not_le, Decidable.not_not] at hc15
    have hs : csent g r = true := by simpa using hc15
    refine g_skip ?_
    refine g_next hK2 ?_
    refine g_seq (fun K5 hK5 => ?_)
    refine g_region ?_
    refine g_step rfl (s_val (by first | exact v_loadl_all ty32 rfl rfl rfl rfl rfl | exact v_loadl_part (cs := [_, _, _, _, _, _, _]) ty32 rfl rfl rfl rfl rfl rfl) rfl rfl ?_)
    refine g_step rfl (s_callp rfl rfl rfl (take_ok (if csent g r = true then csend g r else rzero) _ (by rw [if_pos hs]; exact csend_small hl)) ?_)
    rintro _ rfl
    refine g_step rfl (s_store_all ty32 rfl rfl rfl rfl rfl rfl ?_)
    refine g_step rfl (s_val (v_assign rfl) rfl rfl ?_)
    refine g_nil ?_
    refine g_next hK5 ?_
    refine g_ret ?_
    refine g_end2 (.inl rfl) Try.results85 (.agg ty32 rfl rfl rfl rfl rfl) (.tmp rfl) [] (ASub.refl _) (AHeap.sub_refl _) (fun p hp => by cases hp) ⟨rfl, ?_⟩
    first | (rw [hs, if_pos rfl, if_pos rfl, ctake_csend]; done) | (rw [hs, if_pos rfl, if_pos rfl, ctake_csend]; rfl)

theorem path_ok (r : Rc) (l : List Int) (G : AHeap) (hl : Small r.bag) (hn : l.length ≤ 1000000) (va : AV) (hva : va.view G = some (l.map (.int .i64))) : PCalls Try.prog 50 [encR r, va] G (fun v => v = .tup [encR (cpath r l).1, .bool (cpath r l).2]) := by
  refine LCalls.intro 31 fi50 rfl Try.ntmps50 rfl (fun _ h => h.elim) (fun H hH w0 hw0 => ?_)
  have hva := view_sub hH hva
  refine g_seq (fun K0 hK0 => ?_)
  refine g_region ?_
  refine g_step rfl (s_box rfl rfl rfl rfl ?_)
  refine g_step rfl (s_alloc (av := (.agg [(.int .i64 0), (.int .i64 0), (.int .i64 0), (.int .i64 0), (.int .i64 0), (.bool false), .nil0])) ty32 rfl rfl rfl rfl ?_)
  refine g_step rfl (s_val (v_assign rfl) rfl rfl ?_)
  refine g_nil ?_
  refine g_next hK0 ?_
  refine g_seq (fun K1 hK1 => ?_)
  refine g_region ?_
  refine g_wkB 4 rfl (v' := encR rzero) rfl ?_
  refine g_step rfl (s_val (by first | exact v_loadl_all ty32 rfl rfl rfl rfl rfl | exact v_loadl_part (cs := [_, _, _, _, _, _, _]) ty32 rfl rfl rfl rfl rfl rfl) rfl rfl ?_)
  refine g_step rfl (s_callp rfl rfl rfl (whole_ok _ _ (by assumption)) ?_)
  rintro _ rfl
  refine g_step rfl (s_alloc (av := (.agg [(.int .i64 0), (.int .i64 0), (.int .i64 0), (.int .i64 0), (.int .i64 0), (.bool false), .nil0])) ty32 rfl rfl rfl rfl ?_)
  refine g_step rfl (s_store_all ty32 rfl rfl rfl rfl rfl rfl ?_)
  refine g_nil ?_
  refine g_next hK1 ?_
  refine g_seq (fun K2 hK2 => ?_)
  refine g_seq (fun K3 hK3 => ?_)
  refine g_region ?_
  refine g_step rfl (s_val (v_move rfl) rfl rfl ?_)
  refine g_step rfl (s_val (v_len ty27 rfl (by first | rfl | assumption) (by first | exact List.length_map .. | rfl)) rfl rfl ?_)
  refine g_step rfl (s_val (v_move rfl) rfl rfl ?_)
  refine g_nil ?_
  refine g_next hK3 ?_
  refine g_block ?_
  first | refine g_keep [13, 14, 15] [4, 6] [4, 6] (keep_cons rfl (keep_cons rfl (keep_cons rfl keep_nil))) (lkeep_cons rfl (lkeep_cons rfl lkeep_nil)) (keep_cons rfl (keep_cons rfl keep_nil)) rfl ?_ | refine g_keep [13, 14, 15] [4, 6] [4, 6] rfl rfl rfl rfl ?_
  refine g_loop (fun n env L B G => ∃ (k : Nat) (o : Rc), k ≤ l.length ∧ n = l.length - k ∧ env = [(13, va), (14, .int .i64 (l.length : Int)), (15, .int .i64 (k : Int))] ∧ L = [(4, 4, 0), (6, 6, 0)] ∧ B = [(4, (encR rzero)), (6, (encR o))] ∧ H = G ∧ Small o.bag ∧ cpath o (l.drop k) = cpath r l) (l.length) ⟨0, r, Nat.zero_le _, rfl, rfl, rfl, rfl, rfl, ⟨hl, rfl⟩⟩ (fun n env L B G hI => ?_)
  obtain ⟨k, o, hk, rfl, rfl, rfl, rfl, rfl, hc⟩ := hI
  refine g_seq (fun K4 hK4 => ?_)
  refine g_region ?_
  refine g_step rfl (s_val (v_lss rfl rfl) rfl rfl ?_)
  refine g_nil ?_
  refine g_next hK4 ?_
  refine g_seq (fun K5 hK5 => ?_)
  refine g_cond rfl (fun hc16 => ?_) (fun hc16 => ?_)
  · try simp only [decide_eq_true_eq, decide_eq_false_iff_not, Bool.not_eq_true', Bool.not_eq_false', Bool.not_eq_eq_eq_not, Bool.not_true, Bool.not_false, Bool.and_eq_true, Bool.or_eq_true, Bool.or_eq_false_iff, beq_iff_eq, beq_eq_false_iff_ne, ne_eq, Int.not_lt, Int.not_le, Decidable.not_not] at hc16
    obtain ⟨g, hg⟩ := get_some (l := l) (k := k) (by omega)
    have hso := hc.1
    have hcq : cpath o (l.drop k) = if csent g o = true then cpath (chop g o) (l.drop (k + 1)) else (rzero, false) := by rw [drop_cons hg]; rfl
    refine g_skip ?_
    refine g_next hK5 ?_
    refine g_seq (fun K6 hK6 => ?_)
    refine g_block ?_
    refine g_seq (fun K7 hK7 => ?_)
    refine g_region ?_
    refine g_step rfl (s_val (v_indexAddr ty27 ty3 rfl rfl (by first | rfl | assumption) (by first | rfl | exact (rfl : (0 : Int) = ((0 : Nat) : Int)) | exact (Int.toNat_of_nonneg (by omega)).symm) (by first | assumption | exact map_get (by assumption) | rfl) rfl) rfl rfl ?_)
    refine g_step rfl (s_val (by first | exact v_load ty3 rfl rfl (by first | rfl | assumption) (by first | assumption | exact map_get (by assumption) | rfl) rfl | exact v_load_box ty3 rfl rfl (by assumption) rfl) rfl rfl ?_)
    refine g_step rfl (s_val (v_assign rfl) rfl rfl ?_)
    refine g_nil ?_
    refine g_next hK7 ?_
    refine g_seq (fun K8 hK8 => ?_)
    refine g_region ?_
    refine g_step rfl (s_val (v_move rfl) rfl rfl ?_)
    refine g_step rfl (s_val (by first | exact v_loadl_all ty32 rfl rfl rfl rfl rfl | exact v_loadl_part (cs := [_, _, _, _, _, _, _]) ty32 rfl rfl rfl rfl rfl rfl) rfl rfl ?_)
    refine g_step rfl (s_callp rfl rfl rfl (hop_ok _ _ _ (by assumption)) ?_)
    rintro _ rfl
    refine g_step rfl (s_val (v_move rfl) rfl rfl ?_)
    refine g_step rfl (s_val (v_extract rfl rfl) rfl rfl ?_)
    refine g_step rfl (s_val (v_extract rfl rfl) rfl rfl ?_)
    refine g_step rfl (s_alloc (av := (.agg [(.int .i64 0), (.int .i64 0), (.int .i64 0), (.int .i64 0), (.int .i64 0), (.bool false), .nil0])) ty32 rfl rfl rfl rfl ?_)
    refine g_step rfl (s_store_all ty32 rfl rfl rfl rfl rfl rfl ?_)
    refine g_step rfl (s_val (v_assign rfl) rfl rfl ?_)
    refine g_nil ?_
    refine g_next hK8 ?_
    refine g_seq (fun K9 hK9 => ?_)
    refine g_seq (fun K10 hK10 => ?_)
    refine g_region ?_
    refine g_step rfl (s_val (v_move rfl) rfl rfl ?_)
    refine g_step rfl (s_val (v_not rfl) rfl rfl ?_)
    refine g_nil ?_
    refine g_next hK10 ?_
    refine g_cond rfl (fun hc26 => ?_) (fun hc26 => ?_)
    · try simp only [decide_eq_true_eq, decide_eq_false_iff_not, Bool.not_eq_true', Bool.not_eq_false', Bool.not_eq_eq_eq_not, Bool.not_true, Bool.not_false, Bool.and_eq_true, Bool.or_eq_true, Bool.or_eq_false_iff, beq_iff_eq, beq_eq_false_iff_ne, ne_eq, Int.not_lt, Int.not_le, Decidable.not_not] at hc26
      refine g_seq (fun K11 hK11 => ?_)
      refine g_region ?_
      refine g_step rfl (s_val (v_sub (b := (encR rzero)) (v_build (vs := []) (zs := [(.int .i64 0), (.int .i64 0), (.int .i64 0), (.int .i64 0), (.int .i64 0), (.bool false), .nil0]) (cells := [_, _, _, _, _, _, _]) ty32 pl32 rfl rfl rfl) (ASub.of_wk rfl)) rfl rfl ?_)
      refine g_step rfl (s_store_all ty32 rfl rfl rfl rfl rfl rfl ?_)
      refine g_step rfl (s_val (v_assign rfl) rfl rfl ?_)
      refine g_nil ?_
      refine g_next hK11 ?_
      refine g_ret ?_
      refine g_then_ret ?_
      refine g_block_ret ?_
      refine g_then_ret ?_
      refine g_then_ret ?_
      refine g_block_ret ?_
      refine g_then_ret ?_
      refine g_end2 (.inl rfl) Try.results50 (.agg ty32 rfl rfl rfl rfl rfl) (.tmp rfl) [] (ASub.refl _) (AHeap.sub_refl _) (fun p hp => by cases hp) ⟨rfl, ?_⟩
      have hcr : cpath r l = (rzero, false) := by rw [← hc.2, hcq, if_neg (by simp [hc26])]
      rw [hcr]; rfl
    · try simp only [decide_eq_true_eq, decide_eq_false_iff_not, Bool.not_eq_true', Bool.not_eq_false', Bool.not_eq_eq_eq_not, Bool.not_true, Bool.not_false, Bool.and_eq_true, Bool.or_eq_true, Bool.or_eq_false_iff, beq_iff_eq, beq_eq_false_iff_ne, ne_eq, Int.not_lt, Int.not_le, Decidable.not_not] at hc26
      refine g_skip ?_
      refine g_next hK9 ?_
      refine g_region ?_
      refine g_step rfl (s_val (by first | exact v_loadl_all ty32 rfl rfl rfl rfl rfl | exact v_loadl_part (cs := [_, _, _, _, _, _, _]) ty32 rfl rfl rfl rfl rfl rfl) rfl rfl ?_)
      refine g_step rfl (s_store_all ty32 rfl rfl rfl rfl rfl rfl ?_)
      refine g_nil ?_
      refine g_block_normal ?_
      refine g_next hK6 ?_
      refine g_region ?_
      refine g_step rfl (s_val (v_add rfl rfl (by omega)) rfl rfl ?_)
      refine g_step rfl (s_val (v_move rfl) rfl rfl ?_)
      refine g_nil ?_
      first | refine g_keep [13, 14, 15] [4, 6] [4, 6] (keep_cons rfl (keep_cons rfl (keep_cons rfl keep_nil))) (lkeep_cons rfl (lkeep_cons rfl lkeep_nil)) (keep_cons rfl (keep_cons rfl keep_nil)) rfl ?_ | refine g_keep [13, 14, 15] [4, 6] [4, 6] rfl rfl rfl rfl ?_
      exact g_round _ (by omega) ⟨k + 1, (if csent g o = true then chop g o else rzero), by omega, rfl, rfl, rfl, rfl, rfl, ⟨by rw [if_pos hc26]; exact chop_small hso, by rw [if_pos hc26]; rw [hcq, if_pos hc26] at hc; exact hc.2⟩⟩
  · try simp only [decide_eq_true_eq, decide_eq_false_iff_not, Bool.not_eq_true', Bool.not_eq_false', Bool.not_eq_eq_eq_not, Bool.not_true, Bool.not_false, Bool.and_eq_true, Bool.or_eq_true, Bool.or_eq_false_iff, beq_iff_eq, beq_eq_false_iff_ne, ne_eq, Int.not_lt, Int.not_le, Decidable.not_not] at hc16
    obtain rfl : k = l.length := by omega
    rw [List.drop_length] at hc
    have hce : (o, true) = cpath r l := hc.2
    refine g_exit ?_
    refine g_then_exit ?_
    refine g_then_exit ?_
    refine g_block_same ?_
    refine g_next hK2 ?_
    refine g_seq (fun K12 hK12 => ?_)
    refine g_region ?_
    refine g_step rfl (s_val (by first | exact v_loadl_all ty32 rfl rfl rfl rfl rfl | exact v_loadl_part (cs := [_, _, _, _, _, _, _]) ty32 rfl rfl rfl rfl rfl rfl) rfl rfl ?_)
    refine g_step rfl (s_store_all ty32 rfl rfl rfl rfl rfl rfl ?_)
    refine g_step rfl (s_val (v_assign rfl) rfl rfl ?_)
    refine g_nil ?_
    refine g_next hK12 ?_
    refine g_ret ?_
    refine g_end2 (.inl rfl) Try.results50 (.agg ty32 rfl rfl rfl rfl rfl) (.tmp rfl) [] (ASub.refl _) (AHeap.sub_refl _) (fun p hp => by cases hp) ⟨rfl, ?_⟩
    first | (rw [← hce]; done) | (rw [← hce]; rfl)

end Go.Proofs.Ytgedefcjngofkaa

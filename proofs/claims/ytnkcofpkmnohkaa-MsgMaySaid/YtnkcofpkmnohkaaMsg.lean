import Derived.Test.YtnkcofpkmnohkaaRec2
import Derived.Test.YtnkcofpkmnohkaaPMsg
set_option maxHeartbeats 8000000
set_option linter.unusedSimpArgs false
set_option linter.unusedVariables false
set_option maxRecDepth 100000
namespace Go.Proofs.Ytnkcofpkmnohkaa
open Go Go.Proofs.Ytnkcofpkmnohkaa.AM
theorem table_ok (G : AHeap) : PCalls Try.prog 52 [] G (fun v => v = .agg kTable) := by
  refine LCalls.intro 12 fi52 rfl Try.ntmps52 rfl (fun _ h => h.elim) (fun H hH w0 hw0 => ?_)
  refine g_seq (fun K0 hK0 => ?_)
  refine g_region ?_
  refine g_step rfl (s_alloc (av := (.agg [(.str ⟨#[]⟩), (.int .u8 0), (.str ⟨#[]⟩), (.int .u8 0), (.str ⟨#[]⟩), (.int .u8 0), (.str ⟨#[]⟩), (.int .u8 0), (.str ⟨#[]⟩), (.int .u8 0), (.str ⟨#[]⟩), (.int .u8 0), (.str ⟨#[]⟩), (.int .u8 0), (.str ⟨#[]⟩), (.int .u8 0), (.str ⟨#[]⟩), (.int .u8 0), (.str ⟨#[]⟩), (.int .u8 0)])) ty73 rfl rfl rfl rfl ?_)
  refine g_nil ?_
  refine g_next hK0 ?_
  refine g_seq (fun K1 hK1 => ?_)
  refine g_region ?_
  refine g_step rfl (s_val (v_build (vs := []) (zs := [(.str ⟨#[]⟩), (.int .u8 0)]) (cells := [_, _]) ty69 pl69 rfl rfl rfl) rfl rfl ?_)
  refine g_step rfl (s_val (v_build (vs := [(0, _), (1, _)]) (zs := [(.str ⟨#[]⟩), (.int .u8 0)]) (cells := [_, _]) ty69 pl69 rfl rfl rfl) rfl rfl ?_)
  refine g_step rfl (s_val (v_build (vs := [(0, _), (1, _)]) (zs := [(.str ⟨#[]⟩), (.int .u8 0)]) (cells := [_, _]) ty69 pl69 rfl rfl rfl) rfl rfl ?_)
  refine g_step rfl (s_val (v_build (vs := [(0, _), (1, _)]) (zs := [(.str ⟨#[]⟩), (.int .u8 0)]) (cells := [_, _]) ty69 pl69 rfl rfl rfl) rfl rfl ?_)
  refine g_step rfl (s_val (v_build (vs := [(0, _), (1, _)]) (zs := [(.str ⟨#[]⟩), (.int .u8 0)]) (cells := [_, _]) ty69 pl69 rfl rfl rfl) rfl rfl ?_)
  refine g_step rfl (s_val (v_build (vs := [(0, _), (1, _)]) (zs := [(.str ⟨#[]⟩), (.int .u8 0)]) (cells := [_, _]) ty69 pl69 rfl rfl rfl) rfl rfl ?_)
  refine g_step rfl (s_val (v_build (vs := [(0, _), (1, _)]) (zs := [(.str ⟨#[]⟩), (.int .u8 0)]) (cells := [_, _]) ty69 pl69 rfl rfl rfl) rfl rfl ?_)
  refine g_step rfl (s_val (v_build (vs := [(0, _), (1, _)]) (zs := [(.str ⟨#[]⟩), (.int .u8 0)]) (cells := [_, _]) ty69 pl69 rfl rfl rfl) rfl rfl ?_)
  refine g_step rfl (s_val (v_build (vs := [(0, _), (1, _)]) (zs := [(.str ⟨#[]⟩), (.int .u8 0)]) (cells := [_, _]) ty69 pl69 rfl rfl rfl) rfl rfl ?_)
  refine g_step rfl (s_val (v_build (vs := [(0, _), (1, _)]) (zs := [(.str ⟨#[]⟩), (.int .u8 0)]) (cells := [_, _]) ty69 pl69 rfl rfl rfl) rfl rfl ?_)
  refine g_step rfl (s_val (v_build_arr (vs := [(0, _), (1, _), (2, _), (3, _), (4, _), (5, _), (6, _), (7, _), (8, _), (9, _)]) (zs := [(.str ⟨#[]⟩), (.int .u8 0), (.str ⟨#[]⟩), (.int .u8 0), (.str ⟨#[]⟩), (.int .u8 0), (.str ⟨#[]⟩), (.int .u8 0), (.str ⟨#[]⟩), (.int .u8 0), (.str ⟨#[]⟩), (.int .u8 0), (.str ⟨#[]⟩), (.int .u8 0), (.str ⟨#[]⟩), (.int .u8 0), (.str ⟨#[]⟩), (.int .u8 0), (.str ⟨#[]⟩), (.int .u8 0)]) (cells := [_, _, _, _, _, _, _, _, _, _, _, _, _, _, _, _, _, _, _, _]) ty73 ty69 rfl rfl rfl) rfl rfl ?_)
  refine g_step rfl (s_store_all ty73 rfl rfl rfl rfl rfl rfl ?_)
  refine g_nil ?_
  refine g_next hK1 ?_
  refine g_ret ?_
  refine g_end1 (.inl rfl) Try.results52 (.agg ty73 rfl rfl rfl rfl rfl) [] (ASub.refl _) (AHeap.sub_refl _) (fun p hp => by cases hp) ⟨rfl, ?_⟩
  rfl

theorem of_ok (k : Int) (G : AHeap) : PCalls Try.prog 48 [.int .i64 k] G (fun v => v = encRow k) := by
  refine LCalls.intro 13 fi48 rfl Try.ntmps48 rfl (fun _ h => h.elim) (fun H hH w0 hw0 => ?_)
  refine g_seq (fun K0 hK0 => ?_)
  refine g_region ?_
  refine g_step rfl (s_alloc (av := (.agg [(.str ⟨#[]⟩), (.int .u8 0)])) ty69 rfl rfl rfl rfl ?_)
  refine g_nil ?_
  refine g_next hK0 ?_
  refine g_seq (fun K1 hK1 => ?_)
  refine g_seq (fun K2 hK2 => ?_)
  refine g_region ?_
  refine g_step rfl (s_val (v_move rfl) rfl rfl ?_)
  refine g_step rfl (s_val (v_lss rfl rfl) rfl rfl ?_)
  refine g_step rfl (s_val (v_move rfl) rfl rfl ?_)
  refine g_split 5 rfl (fun hg5 => ?_) (fun hg5 => ?_)
  · try simp only [decide_eq_true_eq, decide_eq_false_iff_not, Bool.not_eq_true', Bool.not_eq_false', Bool.not_eq_eq_eq_not, Bool.not_true, Bool.not_false, Bool.and_eq_true, Bool.or_eq_true, Bool.or_eq_false_iff, beq_iff_eq, beq_eq_false_iff_ne, ne_eq, Int.not_lt, Int.not_le, Decidable.not_not] at hg5
    refine g_step_no (j := 2) (t := 5) rfl rfl rfl rfl rfl rfl rfl ?_
    refine g_step_no (j := 2) (t := 5) rfl rfl rfl rfl rfl rfl rfl ?_
    refine g_step rfl (s_val (v_pick_t rfl rfl) rfl rfl ?_)
    refine g_nil ?_
    refine g_next hK2 ?_
    refine g_cond rfl (fun _ => ?_) (fun h => by cases h)
    refine g_seq (fun K3 hK3 => ?_)
    refine g_region ?_
    refine g_step rfl (s_val (v_build (vs := []) (zs := [(.str ⟨#[]⟩), (.int .u8 0)]) (cells := [_, _]) ty69 pl69 rfl rfl rfl) rfl rfl ?_)
    refine g_step rfl (s_store_all ty69 rfl rfl rfl rfl rfl rfl ?_)
    refine g_nil ?_
    refine g_next hK3 ?_
    refine g_ret ?_
    refine g_then_ret ?_
    refine g_end1 (.inl rfl) Try.results48 (.agg ty69 rfl rfl rfl rfl rfl) [] (ASub.refl _) (AHeap.sub_refl _) (fun p hp => by cases hp) ⟨rfl, ?_⟩
    first | (rw [encRow, show kName k = ⟨#[]⟩ from if_pos (by omega), show kPart k = 0 from if_pos (by omega)]; done) | (rw [encRow, show kName k = ⟨#[]⟩ from if_pos (by omega), show kPart k = 0 from if_pos (by omega)]; rfl)
  · try simp only [decide_eq_true_eq, decide_eq_false_iff_not, Bool.not_eq_true', Bool.not_eq_false', Bool.not_eq_eq_eq_not, Bool.not_true, Bool.not_false, Bool.and_eq_true, Bool.or_eq_true, Bool.or_eq_false_iff, beq_iff_eq, beq_eq_false_iff_ne, ne_eq, Int.not_lt, Int.not_le, Decidable.not_not] at hg5
    refine g_step_yes (j := 2) (t := 5) rfl rfl rfl rfl (s_val (v_move rfl) rfl rfl ?_)
    refine g_step_yes (j := 2) (t := 5) rfl rfl rfl rfl (s_val (v_gtr rfl rfl) rfl rfl ?_)
    refine g_step rfl (s_val (v_pick_f rfl rfl) rfl rfl ?_)
    refine g_nil ?_
    refine g_next hK2 ?_
    refine g_cond rfl (fun hc8 => ?_) (fun hc8 => ?_)
    · try simp only [decide_eq_true_eq, decide_eq_false_iff_not, Bool.not_eq_true', Bool.not_eq_false', Bool.not_eq_eq_eq_not, Bool.not_true, Bool.not_false, Bool.and_eq_true, Bool.or_eq_true, Bool.or_eq_false_iff, beq_iff_eq, beq_eq_false_iff_ne, ne_eq, Int.not_lt, Int.not_le, Decidable.not_not] at hc8
      refine g_seq (fun K4 hK4 => ?_)
      refine g_region ?_
      refine g_step rfl (s_val (v_build (vs := []) (zs := [(.str ⟨#[]⟩), (.int .u8 0)]) (cells := [_, _]) ty69 pl69 rfl rfl rfl) rfl rfl ?_)
      refine g_step rfl (s_store_all ty69 rfl rfl rfl rfl rfl rfl ?_)
      refine g_nil ?_
      refine g_next hK4 ?_
      refine g_ret ?_
      refine g_then_ret ?_
      refine g_end1 (.inl rfl) Try.results48 (.agg ty69 rfl rfl rfl rfl rfl) [] (ASub.refl _) (AHeap.sub_refl _) (fun p hp => by cases hp) ⟨rfl, ?_⟩
      first | (rw [encRow, show kName k = ⟨#[]⟩ from if_pos (by omega), show kPart k = 0 from if_pos (by omega)]; done) | (rw [encRow, show kName k = ⟨#[]⟩ from if_pos (by omega), show kPart k = 0 from if_pos (by omega)]; rfl)
    · try simp only [decide_eq_true_eq, decide_eq_false_iff_not, Bool.not_eq_true', Bool.not_eq_false', Bool.not_eq_eq_eq_not, Bool.not_true, Bool.not_false, Bool.and_eq_true, Bool.or_eq_true, Bool.or_eq_false_iff, beq_iff_eq, beq_eq_false_iff_ne, ne_eq, Int.not_lt, Int.not_le, Decidable.not_not] at hc8
      refine g_skip ?_
      refine g_next hK1 ?_
      refine g_seq (fun K5 hK5 => ?_)
      refine g_region ?_
      refine g_step rfl (s_callp rfl rfl rfl (table_ok _) ?_)
      rintro _ rfl
      refine g_step rfl (s_val (v_move rfl) rfl rfl ?_)
      refine g_step rfl (s_val (v_index_arr_agg (i := k.toNat) (cs := [.str (kName k), .int .u8 (kPart k)]) ty73 ty69 rfl rfl rfl (by first | rfl | exact (rfl : (0 : Int) = ((0 : Nat) : Int)) | exact (Int.toNat_of_nonneg (by omega)).symm) (by omega) (kTable_at (by omega))) rfl rfl ?_)
      refine g_step rfl (s_store_all ty69 rfl rfl rfl rfl rfl rfl ?_)
      refine g_nil ?_
      refine g_next hK5 ?_
      refine g_ret ?_
      refine g_end1 (.inl rfl) Try.results48 (.agg ty69 rfl rfl rfl rfl rfl) [] (ASub.refl _) (AHeap.sub_refl _) (fun p hp => by cases hp) ⟨rfl, ?_⟩
      rfl

theorem has_ok (k p : Int) (G : AHeap) : PCalls Try.prog 16 [.int .i64 k, .int .i64 p] G (fun v => v = .bool (has10 k p)) := by
  refine LCalls.intro 20 fi16 rfl Try.ntmps16 rfl (fun _ h => h.elim) (fun H hH w0 hw0 => ?_)
  refine g_seq (fun K0 hK0 => ?_)
  refine g_region ?_
  refine g_step rfl (s_val (v_assign rfl) rfl rfl ?_)
  refine g_nil ?_
  refine g_next hK0 ?_
  refine g_seq (fun K1 hK1 => ?_)
  refine g_region ?_
  refine g_step rfl (s_val (v_move rfl) rfl rfl ?_)
  refine g_step rfl (s_val (v_geq rfl rfl) rfl rfl ?_)
  refine g_step rfl (s_val (v_move rfl) rfl rfl ?_)
  refine g_split 7 rfl (fun hg7 => ?_) (fun hg7 => ?_)
  · try simp only [decide_eq_true_eq, decide_eq_false_iff_not, Bool.not_eq_true', Bool.not_eq_false', Bool.not_eq_eq_eq_not, Bool.not_true, Bool.not_false, Bool.and_eq_true, Bool.or_eq_true, Bool.or_eq_false_iff, beq_iff_eq, beq_eq_false_iff_ne, ne_eq, Int.not_lt, Int.not_le, Decidable.not_not] at hg7
    refine g_step_yes (j := 2) (t := 7) rfl rfl rfl rfl (s_val (v_move rfl) rfl rfl ?_)
    refine g_step_yes (j := 2) (t := 7) rfl rfl rfl rfl (s_val (v_leq rfl rfl) rfl rfl ?_)
    refine g_step rfl (s_val (v_pick_t rfl rfl) rfl rfl ?_)
    refine g_step rfl (s_val (v_move rfl) rfl rfl ?_)
    refine g_split 11 rfl (fun hg11 => ?_) (fun hg11 => ?_)
    · try simp only [decide_eq_true_eq, decide_eq_false_iff_not, Bool.not_eq_true', Bool.not_eq_false', Bool.not_eq_eq_eq_not, Bool.not_true, Bool.not_false, Bool.and_eq_true, Bool.or_eq_true, Bool.or_eq_false_iff, beq_iff_eq, beq_eq_false_iff_ne, ne_eq, Int.not_lt, Int.not_le, Decidable.not_not] at hg11
      refine g_step_yes (j := 6) (t := 11) rfl rfl rfl rfl (s_val (v_move rfl) rfl rfl ?_)
      refine g_step_yes (j := 6) (t := 11) rfl rfl rfl rfl (s_callp rfl rfl rfl (of_ok _ _) ?_)
      rintro _ rfl
      refine g_step_yes (j := 6) (t := 11) rfl rfl rfl rfl (s_val (v_field ty69 fo69_1 ty5 rfl rfl rfl) rfl rfl ?_)
      refine g_step_yes (j := 6) (t := 11) rfl rfl rfl rfl (s_val (v_move rfl) rfl rfl ?_)
      refine g_step_yes (j := 6) (t := 11) rfl rfl rfl rfl (s_val (v_shr rfl rfl (by omega)) rfl rfl ?_)
      refine g_step_yes (j := 6) (t := 11) rfl rfl rfl rfl (s_val (v_and rfl rfl) rfl rfl ?_)
      refine g_step_yes (j := 6) (t := 11) rfl rfl rfl rfl (s_val (v_eql rfl rfl) rfl rfl ?_)
      refine g_step rfl (s_val (v_pick_t rfl rfl) rfl rfl ?_)
      refine g_step rfl (s_val (v_assign rfl) rfl rfl ?_)
      refine g_nil ?_
      refine g_next hK1 ?_
      refine g_ret ?_
      refine g_end1 (.inl rfl) Try.results16 (.tmp rfl) [] (ASub.refl _) (AHeap.sub_refl _) (fun p hp => by cases hp) ⟨rfl, ?_⟩
      first | (first | (rw [kBit (by omega) (by omega)]; done) | (rw [has10_part (by omega)]; rfl); done) | (first | (rw [kBit (by omega) (by omega)]; done) | (rw [has10_part (by omega)]; rfl); rfl)
    · try simp only [decide_eq_true_eq, decide_eq_false_iff_not, Bool.not_eq_true', Bool.not_eq_false', Bool.not_eq_eq_eq_not, Bool.not_true, Bool.not_false, Bool.and_eq_true, Bool.or_eq_true, Bool.or_eq_false_iff, beq_iff_eq, beq_eq_false_iff_ne, ne_eq, Int.not_lt, Int.not_le, Decidable.not_not] at hg11
      refine g_step_no (j := 6) (t := 11) rfl rfl rfl rfl rfl rfl rfl ?_
      refine g_step_no (j := 6) (t := 11) rfl rfl rfl rfl rfl rfl rfl ?_
      refine g_step_no (j := 6) (t := 11) rfl rfl rfl rfl rfl rfl rfl ?_
      refine g_step_no (j := 6) (t := 11) rfl rfl rfl rfl rfl rfl rfl ?_
      refine g_step_no (j := 6) (t := 11) rfl rfl rfl rfl rfl rfl rfl ?_
      refine g_step_no (j := 6) (t := 11) rfl rfl rfl rfl rfl rfl rfl ?_
      refine g_step_no (j := 6) (t := 11) rfl rfl rfl rfl rfl rfl rfl ?_
      refine g_step rfl (s_val (v_pick_f rfl rfl) rfl rfl ?_)
      refine g_step rfl (s_val (v_assign rfl) rfl rfl ?_)
      refine g_nil ?_
      refine g_next hK1 ?_
      refine g_ret ?_
      refine g_end1 (.inl rfl) Try.results16 (.tmp rfl) [] (ASub.refl _) (AHeap.sub_refl _) (fun p hp => by cases hp) ⟨rfl, ?_⟩
      first | (first | (rw [kBit (by omega) (by omega)]; done) | (rw [has10_part (by omega)]; rfl); done) | (first | (rw [kBit (by omega) (by omega)]; done) | (rw [has10_part (by omega)]; rfl); rfl)
  · try simp only [decide_eq_true_eq, decide_eq_false_iff_not, Bool.not_eq_true', Bool.not_eq_false', Bool.not_eq_eq_eq_not, Bool.not_true, Bool.not_false, Bool.and_eq_true, Bool.or_eq_true, Bool.or_eq_false_iff, beq_iff_eq, beq_eq_false_iff_ne, ne_eq, Int.not_lt, Int.not_le, Decidable.not_not] at hg7
    refine g_step_no (j := 2) (t := 7) rfl rfl rfl rfl rfl rfl rfl ?_
    refine g_step_no (j := 2) (t := 7) rfl rfl rfl rfl rfl rfl rfl ?_
    refine g_step rfl (s_val (v_pick_f rfl rfl) rfl rfl ?_)
    refine g_step rfl (s_val (v_move rfl) rfl rfl ?_)
    refine g_step_no (j := 6) (t := 11) rfl rfl rfl rfl rfl rfl rfl ?_
    refine g_step_no (j := 6) (t := 11) rfl rfl rfl rfl rfl rfl rfl ?_
    refine g_step_no (j := 6) (t := 11) rfl rfl rfl rfl rfl rfl rfl ?_
    refine g_step_no (j := 6) (t := 11) rfl rfl rfl rfl rfl rfl rfl ?_
    refine g_step_no (j := 6) (t := 11) rfl rfl rfl rfl rfl rfl rfl ?_
    refine g_step_no (j := 6) (t := 11) rfl rfl rfl rfl rfl rfl rfl ?_
    refine g_step_no (j := 6) (t := 11) rfl rfl rfl rfl rfl rfl rfl ?_
    refine g_step rfl (s_val (v_pick_f rfl rfl) rfl rfl ?_)
    refine g_step rfl (s_val (v_assign rfl) rfl rfl ?_)
    refine g_nil ?_
    refine g_next hK1 ?_
    refine g_ret ?_
    refine g_end1 (.inl rfl) Try.results16 (.tmp rfl) [] (ASub.refl _) (AHeap.sub_refl _) (fun p hp => by cases hp) ⟨rfl, ?_⟩
    first | (first | (rw [kBit (by omega) (by omega)]; done) | (rw [has10_part (by omega)]; rfl); done) | (first | (rw [kBit (by omega) (by omega)]; done) | (rw [has10_part (by omega)]; rfl); rfl)

theorem greets_ok (k : Int) (G : AHeap) : PCalls Try.prog 18 [.int .i64 k] G (fun v => v = .bool (decide (1 ≤ k ∧ k ≤ 3))) := by
  refine LCalls.intro 9 fi18 rfl Try.ntmps18 rfl (fun _ h => h.elim) (fun H hH w0 hw0 => ?_)
  refine g_seq (fun K0 hK0 => ?_)
  refine g_region ?_
  refine g_step rfl (s_val (v_assign rfl) rfl rfl ?_)
  refine g_nil ?_
  refine g_next hK0 ?_
  refine g_seq (fun K1 hK1 => ?_)
  refine g_region ?_
  refine g_step rfl (s_val (v_move rfl) rfl rfl ?_)
  refine g_step rfl (s_val (v_geq rfl rfl) rfl rfl ?_)
  refine g_step rfl (s_val (v_move rfl) rfl rfl ?_)
  refine g_split 5 rfl (fun hg5 => ?_) (fun hg5 => ?_)
  · try simp only [decide_eq_true_eq, decide_eq_false_iff_not, Bool.not_eq_true', Bool.not_eq_false', Bool.not_eq_eq_eq_not, Bool.not_true, Bool.not_false, Bool.and_eq_true, Bool.or_eq_true, Bool.or_eq_false_iff, beq_iff_eq, beq_eq_false_iff_ne, ne_eq, Int.not_lt, Int.not_le, Decidable.not_not] at hg5
    refine g_step_yes (j := 2) (t := 5) rfl rfl rfl rfl (s_val (v_move rfl) rfl rfl ?_)
    refine g_step_yes (j := 2) (t := 5) rfl rfl rfl rfl (s_val (v_leq rfl rfl) rfl rfl ?_)
    refine g_step rfl (s_val (v_pick_t rfl rfl) rfl rfl ?_)
    refine g_step rfl (s_val (v_assign rfl) rfl rfl ?_)
    refine g_nil ?_
    refine g_next hK1 ?_
    refine g_ret ?_
    refine g_end1 (.inl rfl) Try.results18 (.tmp rfl) [] (ASub.refl _) (AHeap.sub_refl _) (fun p hp => by cases hp) ⟨rfl, ?_⟩
    first | (first | exact congrArg AV.bool (decide_eq_true (by omega)).symm | exact congrArg AV.bool (decide_eq_false (by omega)).symm | exact congrArg AV.bool (decide_eq_decide.2 (by omega)); done) | (first | exact congrArg AV.bool (decide_eq_true (by omega)).symm | exact congrArg AV.bool (decide_eq_false (by omega)).symm | exact congrArg AV.bool (decide_eq_decide.2 (by omega)); rfl)
  · try simp only [decide_eq_true_eq, decide_eq_false_iff_not, Bool.not_eq_true', Bool.not_eq_false', Bool.not_eq_eq_eq_not, Bool.not_true, Bool.not_false, Bool.and_eq_true, Bool.or_eq_true, Bool.or_eq_false_iff, beq_iff_eq, beq_eq_false_iff_ne, ne_eq, Int.not_lt, Int.not_le, Decidable.not_not] at hg5
    refine g_step_no (j := 2) (t := 5) rfl rfl rfl rfl rfl rfl rfl ?_
    refine g_step_no (j := 2) (t := 5) rfl rfl rfl rfl rfl rfl rfl ?_
    refine g_step rfl (s_val (v_pick_f rfl rfl) rfl rfl ?_)
    refine g_step rfl (s_val (v_assign rfl) rfl rfl ?_)
    refine g_nil ?_
    refine g_next hK1 ?_
    refine g_ret ?_
    refine g_end1 (.inl rfl) Try.results18 (.tmp rfl) [] (ASub.refl _) (AHeap.sub_refl _) (fun p hp => by cases hp) ⟨rfl, ?_⟩
    first | (first | exact congrArg AV.bool (decide_eq_true (by omega)).symm | exact congrArg AV.bool (decide_eq_false (by omega)).symm | exact congrArg AV.bool (decide_eq_decide.2 (by omega)); done) | (first | exact congrArg AV.bool (decide_eq_true (by omega)).symm | exact congrArg AV.bool (decide_eq_false (by omega)).symm | exact congrArg AV.bool (decide_eq_decide.2 (by omega)); rfl)

theorem mname_ok (k : Int) (G : AHeap) : PCalls Try.prog 20 [.int .i64 k] G (fun v => v = .str (kName k)) := by
  refine LCalls.intro 6 fi20 rfl Try.ntmps20 rfl (fun _ h => h.elim) (fun H hH w0 hw0 => ?_)
  refine g_seq (fun K0 hK0 => ?_)
  refine g_region ?_
  refine g_step rfl (s_val (v_assign rfl) rfl rfl ?_)
  refine g_nil ?_
  refine g_next hK0 ?_
  refine g_seq (fun K1 hK1 => ?_)
  refine g_region ?_
  refine g_step rfl (s_val (v_move rfl) rfl rfl ?_)
  refine g_step rfl (s_callp rfl rfl rfl (of_ok _ _) ?_)
  rintro _ rfl
  refine g_step rfl (s_val (v_field ty69 fo69_0 ty9 rfl rfl rfl) rfl rfl ?_)
  refine g_step rfl (s_val (v_assign rfl) rfl rfl ?_)
  refine g_nil ?_
  refine g_next hK1 ?_
  refine g_ret ?_
  refine g_end1 (.inl rfl) Try.results20 (.tmp rfl) [] (ASub.refl _) (AHeap.sub_refl _) (fun p hp => by cases hp) ⟨rfl, ?_⟩
  rfl

theorem has17_ok (k p : Int) (G : AHeap) : PCalls Try.prog 17 [.int .i64 k, .int .i64 p] G (fun v => v = .bool (has10 k p)) := by
  refine LCalls.intro 59 fi17 rfl Try.ntmps17 rfl (fun _ h => h.elim) (fun H hH w0 hw0 => ?_)
  refine g_seq (fun K0 hK0 => ?_)
  refine g_region ?_
  refine g_step rfl (s_val (v_assign rfl) rfl rfl ?_)
  refine g_nil ?_
  refine g_next hK0 ?_
  refine g_seq (fun K1 hK1 => ?_)
  refine g_seq (fun K2 hK2 => ?_)
  refine g_region ?_
  refine g_step rfl (s_val (v_move rfl) rfl rfl ?_)
  refine g_step rfl (s_val (v_eql rfl rfl) rfl rfl ?_)
  refine g_nil ?_
  refine g_next hK2 ?_
  refine g_cond rfl (fun hc6 => ?_) (fun hc6 => ?_)
  · try simp only [decide_eq_true_eq, decide_eq_false_iff_not, Bool.not_eq_true', Bool.not_eq_false', Bool.not_eq_eq_eq_not, Bool.not_true, Bool.not_false, Bool.and_eq_true, Bool.or_eq_true, Bool.or_eq_false_iff, beq_iff_eq, beq_eq_false_iff_ne, ne_eq, Int.not_lt, Int.not_le, Decidable.not_not] at hc6
    refine g_seq (fun K3 hK3 => ?_)
    refine g_region ?_
    refine g_step rfl (s_val (v_move rfl) rfl rfl ?_)
    refine g_step rfl (s_val (v_eql rfl rfl) rfl rfl ?_)
    refine g_step rfl (s_val (v_move rfl) rfl rfl ?_)
    refine g_split 9 rfl (fun hg9 => ?_) (fun hg9 => ?_)
    · try simp only [decide_eq_true_eq, decide_eq_false_iff_not, Bool.not_eq_true', Bool.not_eq_false', Bool.not_eq_eq_eq_not, Bool.not_true, Bool.not_false, Bool.and_eq_true, Bool.or_eq_true, Bool.or_eq_false_iff, beq_iff_eq, beq_eq_false_iff_ne, ne_eq, Int.not_lt, Int.not_le, Decidable.not_not] at hg9
      refine g_step_no (j := 2) (t := 9) rfl rfl rfl rfl rfl rfl rfl ?_
      refine g_step_no (j := 2) (t := 9) rfl rfl rfl rfl rfl rfl rfl ?_
      refine g_step rfl (s_val (v_pick_t rfl rfl) rfl rfl ?_)
      refine g_step rfl (s_val (v_move rfl) rfl rfl ?_)
      refine g_step_no (j := 6) (t := 13) rfl rfl rfl rfl rfl rfl rfl ?_
      refine g_step_no (j := 6) (t := 13) rfl rfl rfl rfl rfl rfl rfl ?_
      refine g_step rfl (s_val (v_pick_t rfl rfl) rfl rfl ?_)
      refine g_step rfl (s_val (v_move rfl) rfl rfl ?_)
      refine g_step_no (j := 10) (t := 17) rfl rfl rfl rfl rfl rfl rfl ?_
      refine g_step_no (j := 10) (t := 17) rfl rfl rfl rfl rfl rfl rfl ?_
      refine g_step rfl (s_val (v_pick_t rfl rfl) rfl rfl ?_)
      refine g_step rfl (s_val (v_move rfl) rfl rfl ?_)
      refine g_step_no (j := 14) (t := 21) rfl rfl rfl rfl rfl rfl rfl ?_
      refine g_step_no (j := 14) (t := 21) rfl rfl rfl rfl rfl rfl rfl ?_
      refine g_step rfl (s_val (v_pick_t rfl rfl) rfl rfl ?_)
      refine g_step rfl (s_val (v_assign rfl) rfl rfl ?_)
      refine g_nil ?_
      refine g_next hK3 ?_
      refine g_ret ?_
      refine g_then_ret ?_
      refine g_end1 (.inl rfl) Try.results17 (.tmp rfl) [] (ASub.refl _) (AHeap.sub_refl _) (fun p hp => by cases hp) ⟨rfl, ?_⟩
      first | (rw [has10_dec]; first | exact congrArg AV.bool (decide_eq_true (by omega)).symm | exact congrArg AV.bool (decide_eq_false (by omega)).symm | exact congrArg AV.bool (decide_eq_decide.2 (by omega)); done) | (rw [has10_dec]; first | exact congrArg AV.bool (decide_eq_true (by omega)).symm | exact congrArg AV.bool (decide_eq_false (by omega)).symm | exact congrArg AV.bool (decide_eq_decide.2 (by omega)); rfl)
    · try simp only [decide_eq_true_eq, decide_eq_false_iff_not, Bool.not_eq_true', Bool.not_eq_false', Bool.not_eq_eq_eq_not, Bool.not_true, Bool.not_false, Bool.and_eq_true, Bool.or_eq_true, Bool.or_eq_false_iff, beq_iff_eq, beq_eq_false_iff_ne, ne_eq, Int.not_lt, Int.not_le, Decidable.not_not] at hg9
      refine g_step_yes (j := 2) (t := 9) rfl rfl rfl rfl (s_val (v_move rfl) rfl rfl ?_)
      refine g_step_yes (j := 2) (t := 9) rfl rfl rfl rfl (s_val (v_eql rfl rfl) rfl rfl ?_)
      refine g_step rfl (s_val (v_pick_f rfl rfl) rfl rfl ?_)
      refine g_step rfl (s_val (v_move rfl) rfl rfl ?_)
      refine g_split 13 rfl (fun hg13 => ?_) (fun hg13 => ?_)
      · try simp only [decide_eq_true_eq, decide_eq_false_iff_not, Bool.not_eq_true', Bool.not_eq_false', Bool.not_eq_eq_eq_not, Bool.not_true, Bool.not_false, Bool.and_eq_true, Bool.or_eq_true, Bool.or_eq_false_iff, beq_iff_eq, beq_eq_false_iff_ne, ne_eq, Int.not_lt, Int.not_le, Decidable.not_not] at hg13
        refine g_step_no (j := 6) (t := 13) rfl rfl rfl rfl rfl rfl rfl ?_
        refine g_step_no (j := 6) (t := 13) rfl rfl rfl rfl rfl rfl rfl ?_
        refine g_step rfl (s_val (v_pick_t rfl rfl) rfl rfl ?_)
        refine g_step rfl (s_val (v_move rfl) rfl rfl ?_)
        refine g_step_no (j := 10) (t := 17) rfl rfl rfl rfl rfl rfl rfl ?_
        refine g_step_no (j := 10) (t := 17) rfl rfl rfl rfl rfl rfl rfl ?_
        refine g_step rfl (s_val (v_pick_t rfl rfl) rfl rfl ?_)
        refine g_step rfl (s_val (v_move rfl) rfl rfl ?_)
        refine g_step_no (j := 14) (t := 21) rfl rfl rfl rfl rfl rfl rfl ?_
        refine g_step_no (j := 14) (t := 21) rfl rfl rfl rfl rfl rfl rfl ?_
        refine g_step rfl (s_val (v_pick_t rfl rfl) rfl rfl ?_)
        refine g_step rfl (s_val (v_assign rfl) rfl rfl ?_)
        refine g_nil ?_
        refine g_next hK3 ?_
        refine g_ret ?_
        refine g_then_ret ?_
        refine g_end1 (.inl rfl) Try.results17 (.tmp rfl) [] (ASub.refl _) (AHeap.sub_refl _) (fun p hp => by cases hp) ⟨rfl, ?_⟩
        first | (rw [has10_dec]; first | exact congrArg AV.bool (decide_eq_true (by omega)).symm | exact congrArg AV.bool (decide_eq_false (by omega)).symm | exact congrArg AV.bool (decide_eq_decide.2 (by omega)); done) | (rw [has10_dec]; first | exact congrArg AV.bool (decide_eq_true (by omega)).symm | exact congrArg AV.bool (decide_eq_false (by omega)).symm | exact congrArg AV.bool (decide_eq_decide.2 (by omega)); rfl)
      · try simp only [decide_eq_true_eq, decide_eq_false_iff_not, Bool.not_eq_true', Bool.not_eq_false', Bool.not_eq_eq_eq_not, Bool.not_true, Bool.not_false, Bool.and_eq_true, Bool.or_eq_true, Bool.or_eq_false_iff, beq_iff_eq, beq_eq_false_iff_ne, ne_eq, Int.not_lt, Int.not_le, Decidable.not_not] at hg13
        refine g_step_yes (j := 6) (t := 13) rfl rfl rfl rfl (s_val (v_move rfl) rfl rfl ?_)
        refine g_step_yes (j := 6) (t := 13) rfl rfl rfl rfl (s_val (v_eql rfl rfl) rfl rfl ?_)
        refine g_step rfl (s_val (v_pick_f rfl rfl) rfl rfl ?_)
        refine g_step rfl (s_val (v_move rfl) rfl rfl ?_)
        refine g_split 17 rfl (fun hg17 => ?_) (fun hg17 => ?_)
        · try simp only [decide_eq_true_eq, decide_eq_false_iff_not, Bool.not_eq_true', Bool.not_eq_false', Bool.not_eq_eq_eq_not, Bool.not_true, Bool.not_false, Bool.and_eq_true, Bool.or_eq_true, Bool.or_eq_false_iff, beq_iff_eq, beq_eq_false_iff_ne, ne_eq, Int.not_lt, Int.not_le, Decidable.not_not] at hg17
          refine g_step_no (j := 10) (t := 17) rfl rfl rfl rfl rfl rfl rfl ?_
          refine g_step_no (j := 10) (t := 17) rfl rfl rfl rfl rfl rfl rfl ?_
          refine g_step rfl (s_val (v_pick_t rfl rfl) rfl rfl ?_)
          refine g_step rfl (s_val (v_move rfl) rfl rfl ?_)
          refine g_step_no (j := 14) (t := 21) rfl rfl rfl rfl rfl rfl rfl ?_
          refine g_step_no (j := 14) (t := 21) rfl rfl rfl rfl rfl rfl rfl ?_
          refine g_step rfl (s_val (v_pick_t rfl rfl) rfl rfl ?_)
          refine g_step rfl (s_val (v_assign rfl) rfl rfl ?_)
          refine g_nil ?_
          refine g_next hK3 ?_
          refine g_ret ?_
          refine g_then_ret ?_
          refine g_end1 (.inl rfl) Try.results17 (.tmp rfl) [] (ASub.refl _) (AHeap.sub_refl _) (fun p hp => by cases hp) ⟨rfl, ?_⟩
          first | (rw [has10_dec]; first | exact congrArg AV.bool (decide_eq_true (by omega)).symm | exact congrArg AV.bool (decide_eq_false (by omega)).symm | exact congrArg AV.bool (decide_eq_decide.2 (by omega)); done) | (rw [has10_dec]; first | exact congrArg AV.bool (decide_eq_true (by omega)).symm | exact congrArg AV.bool (decide_eq_false (by omega)).symm | exact congrArg AV.bool (decide_eq_decide.2 (by omega)); rfl)
        · try simp only [decide_eq_true_eq, decide_eq_false_iff_not, Bool.not_eq_true', Bool.not_eq_false', Bool.not_eq_eq_eq_not, Bool.not_true, Bool.not_false, Bool.and_eq_true, Bool.or_eq_true, Bool.or_eq_false_iff, beq_iff_eq, beq_eq_false_iff_ne, ne_eq, Int.not_lt, Int.not_le, Decidable.not_not] at hg17
          refine g_step_yes (j := 10) (t := 17) rfl rfl rfl rfl (s_val (v_move rfl) rfl rfl ?_)
          refine g_step_yes (j := 10) (t := 17) rfl rfl rfl rfl (s_val (v_eql rfl rfl) rfl rfl ?_)
          refine g_step rfl (s_val (v_pick_f rfl rfl) rfl rfl ?_)
          refine g_step rfl (s_val (v_move rfl) rfl rfl ?_)
          refine g_split 21 rfl (fun hg21 => ?_) (fun hg21 => ?_)
          · try simp only [decide_eq_true_eq, decide_eq_false_iff_not, Bool.not_eq_true', Bool.not_eq_false', Bool.not_eq_eq_eq_not, Bool.not_true, Bool.not_false, Bool.and_eq_true, Bool.or_eq_true, Bool.or_eq_false_iff, beq_iff_eq, beq_eq_false_iff_ne, ne_eq, Int.not_lt, Int.not_le, Decidable.not_not] at hg21
            refine g_step_no (j := 14) (t := 21) rfl rfl rfl rfl rfl rfl rfl ?_
            refine g_step_no (j := 14) (t := 21) rfl rfl rfl rfl rfl rfl rfl ?_
            refine g_step rfl (s_val (v_pick_t rfl rfl) rfl rfl ?_)
            refine g_step rfl (s_val (v_assign rfl) rfl rfl ?_)
            refine g_nil ?_
            refine g_next hK3 ?_
            refine g_ret ?_
            refine g_then_ret ?_
            refine g_end1 (.inl rfl) Try.results17 (.tmp rfl) [] (ASub.refl _) (AHeap.sub_refl _) (fun p hp => by cases hp) ⟨rfl, ?_⟩
            first | (rw [has10_dec]; first | exact congrArg AV.bool (decide_eq_true (by omega)).symm | exact congrArg AV.bool (decide_eq_false (by omega)).symm | exact congrArg AV.bool (decide_eq_decide.2 (by omega)); done) | (rw [has10_dec]; first | exact congrArg AV.bool (decide_eq_true (by omega)).symm | exact congrArg AV.bool (decide_eq_false (by omega)).symm | exact congrArg AV.bool (decide_eq_decide.2 (by omega)); rfl)
          · try simp only [decide_eq_true_eq, decide_eq_false_iff_not, Bool.not_eq_true', Bool.not_eq_false', Bool.not_eq_eq_eq_not, Bool.not_true, Bool.not_false, Bool.and_eq_true, Bool.or_eq_true, Bool.or_eq_false_iff, beq_iff_eq, beq_eq_false_iff_ne, ne_eq, Int.not_lt, Int.not_le, Decidable.not_not] at hg21
            refine g_step_yes (j := 14) (t := 21) rfl rfl rfl rfl (s_val (v_move rfl) rfl rfl ?_)
            refine g_step_yes (j := 14) (t := 21) rfl rfl rfl rfl (s_val (v_eql rfl rfl) rfl rfl ?_)
            refine g_step rfl (s_val (v_pick_f rfl rfl) rfl rfl ?_)
            refine g_step rfl (s_val (v_assign rfl) rfl rfl ?_)
            refine g_nil ?_
            refine g_next hK3 ?_
            refine g_ret ?_
            refine g_then_ret ?_
            refine g_end1 (.inl rfl) Try.results17 (.tmp rfl) [] (ASub.refl _) (AHeap.sub_refl _) (fun p hp => by cases hp) ⟨rfl, ?_⟩
            first | (rw [has10_dec]; first | exact congrArg AV.bool (decide_eq_true (by omega)).symm | exact congrArg AV.bool (decide_eq_false (by omega)).symm | exact congrArg AV.bool (decide_eq_decide.2 (by omega)); done) | (rw [has10_dec]; first | exact congrArg AV.bool (decide_eq_true (by omega)).symm | exact congrArg AV.bool (decide_eq_false (by omega)).symm | exact congrArg AV.bool (decide_eq_decide.2 (by omega)); rfl)
  · try simp only [decide_eq_true_eq, decide_eq_false_iff_not, Bool.not_eq_true', Bool.not_eq_false', Bool.not_eq_eq_eq_not, Bool.not_true, Bool.not_false, Bool.and_eq_true, Bool.or_eq_true, Bool.or_eq_false_iff, beq_iff_eq, beq_eq_false_iff_ne, ne_eq, Int.not_lt, Int.not_le, Decidable.not_not] at hc6
    refine g_skip ?_
    refine g_next hK1 ?_
    refine g_seq (fun K4 hK4 => ?_)
    refine g_seq (fun K5 hK5 => ?_)
    refine g_region ?_
    refine g_step rfl (s_val (v_move rfl) rfl rfl ?_)
    refine g_step rfl (s_val (v_eql rfl rfl) rfl rfl ?_)
    refine g_nil ?_
    refine g_next hK5 ?_
    refine g_cond rfl (fun hc26 => ?_) (fun hc26 => ?_)
    · try simp only [decide_eq_true_eq, decide_eq_false_iff_not, Bool.not_eq_true', Bool.not_eq_false', Bool.not_eq_eq_eq_not, Bool.not_true, Bool.not_false, Bool.and_eq_true, Bool.or_eq_true, Bool.or_eq_false_iff, beq_iff_eq, beq_eq_false_iff_ne, ne_eq, Int.not_lt, Int.not_le, Decidable.not_not] at hc26
      refine g_seq (fun K6 hK6 => ?_)
      refine g_region ?_
      refine g_step rfl (s_val (v_move rfl) rfl rfl ?_)
      refine g_step rfl (s_val (v_eql rfl rfl) rfl rfl ?_)
      refine g_step rfl (s_val (v_move rfl) rfl rfl ?_)
      refine g_split 29 rfl (fun hg29 => ?_) (fun hg29 => ?_)
      · try simp only [decide_eq_true_eq, decide_eq_false_iff_not, Bool.not_eq_true', Bool.not_eq_false', Bool.not_eq_eq_eq_not, Bool.not_true, Bool.not_false, Bool.and_eq_true, Bool.or_eq_true, Bool.or_eq_false_iff, beq_iff_eq, beq_eq_false_iff_ne, ne_eq, Int.not_lt, Int.not_le, Decidable.not_not] at hg29
        refine g_step_no (j := 2) (t := 29) rfl rfl rfl rfl rfl rfl rfl ?_
        refine g_step_no (j := 2) (t := 29) rfl rfl rfl rfl rfl rfl rfl ?_
        refine g_step rfl (s_val (v_pick_t rfl rfl) rfl rfl ?_)
        refine g_step rfl (s_val (v_assign rfl) rfl rfl ?_)
        refine g_nil ?_
        refine g_next hK6 ?_
        refine g_ret ?_
        refine g_then_ret ?_
        refine g_end1 (.inl rfl) Try.results17 (.tmp rfl) [] (ASub.refl _) (AHeap.sub_refl _) (fun p hp => by cases hp) ⟨rfl, ?_⟩
        first | (rw [has10_dec]; first | exact congrArg AV.bool (decide_eq_true (by omega)).symm | exact congrArg AV.bool (decide_eq_false (by omega)).symm | exact congrArg AV.bool (decide_eq_decide.2 (by omega)); done) | (rw [has10_dec]; first | exact congrArg AV.bool (decide_eq_true (by omega)).symm | exact congrArg AV.bool (decide_eq_false (by omega)).symm | exact congrArg AV.bool (decide_eq_decide.2 (by omega)); rfl)
      · try simp only [decide_eq_true_eq, decide_eq_false_iff_not, Bool.not_eq_true', Bool.not_eq_false', Bool.not_eq_eq_eq_not, Bool.not_true, Bool.not_false, Bool.and_eq_true, Bool.or_eq_true, Bool.or_eq_false_iff, beq_iff_eq, beq_eq_false_iff_ne, ne_eq, Int.not_lt, Int.not_le, Decidable.not_not] at hg29
        refine g_step_yes (j := 2) (t := 29) rfl rfl rfl rfl (s_val (v_move rfl) rfl rfl ?_)
        refine g_step_yes (j := 2) (t := 29) rfl rfl rfl rfl (s_val (v_eql rfl rfl) rfl rfl ?_)
        refine g_step rfl (s_val (v_pick_f rfl rfl) rfl rfl ?_)
        refine g_step rfl (s_val (v_assign rfl) rfl rfl ?_)
        refine g_nil ?_
        refine g_next hK6 ?_
        refine g_ret ?_
        refine g_then_ret ?_
        refine g_end1 (.inl rfl) Try.results17 (.tmp rfl) [] (ASub.refl _) (AHeap.sub_refl _) (fun p hp => by cases hp) ⟨rfl, ?_⟩
        first | (rw [has10_dec]; first | exact congrArg AV.bool (decide_eq_true (by omega)).symm | exact congrArg AV.bool (decide_eq_false (by omega)).symm | exact congrArg AV.bool (decide_eq_decide.2 (by omega)); done) | (rw [has10_dec]; first | exact congrArg AV.bool (decide_eq_true (by omega)).symm | exact congrArg AV.bool (decide_eq_false (by omega)).symm | exact congrArg AV.bool (decide_eq_decide.2 (by omega)); rfl)
    · try simp only [decide_eq_true_eq, decide_eq_false_iff_not, Bool.not_eq_true', Bool.not_eq_false', Bool.not_eq_eq_eq_not, Bool.not_true, Bool.not_false, Bool.and_eq_true, Bool.or_eq_true, Bool.or_eq_false_iff, beq_iff_eq, beq_eq_false_iff_ne, ne_eq, Int.not_lt, Int.not_le, Decidable.not_not] at hc26
      refine g_skip ?_
      refine g_next hK4 ?_
      refine g_seq (fun K7 hK7 => ?_)
      refine g_seq (fun K8 hK8 => ?_)
      refine g_region ?_
      refine g_step rfl (s_val (v_move rfl) rfl rfl ?_)
      refine g_step rfl (s_val (v_eql rfl rfl) rfl rfl ?_)
      refine g_nil ?_
      refine g_next hK8 ?_
      refine g_cond rfl (fun hc34 => ?_) (fun hc34 => ?_)
      · try simp only [decide_eq_true_eq, decide_eq_false_iff_not, Bool.not_eq_true', Bool.not_eq_false', Bool.not_eq_eq_eq_not, Bool.not_true, Bool.not_false, Bool.and_eq_true, Bool.or_eq_true, Bool.or_eq_false_iff, beq_iff_eq, beq_eq_false_iff_ne, ne_eq, Int.not_lt, Int.not_le, Decidable.not_not] at hc34
        refine g_seq (fun K9 hK9 => ?_)
        refine g_region ?_
        refine g_step rfl (s_val (v_move rfl) rfl rfl ?_)
        refine g_step rfl (s_val (v_eql rfl rfl) rfl rfl ?_)
        refine g_step rfl (s_val (v_move rfl) rfl rfl ?_)
        refine g_split 37 rfl (fun hg37 => ?_) (fun hg37 => ?_)
        · try simp only [decide_eq_true_eq, decide_eq_false_iff_not, Bool.not_eq_true', Bool.not_eq_false', Bool.not_eq_eq_eq_not, Bool.not_true, Bool.not_false, Bool.and_eq_true, Bool.or_eq_true, Bool.or_eq_false_iff, beq_iff_eq, beq_eq_false_iff_ne, ne_eq, Int.not_lt, Int.not_le, Decidable.not_not] at hg37
          refine g_step_no (j := 2) (t := 37) rfl rfl rfl rfl rfl rfl rfl ?_
          refine g_step_no (j := 2) (t := 37) rfl rfl rfl rfl rfl rfl rfl ?_
          refine g_step rfl (s_val (v_pick_t rfl rfl) rfl rfl ?_)
          refine g_step rfl (s_val (v_move rfl) rfl rfl ?_)
          refine g_step_no (j := 6) (t := 41) rfl rfl rfl rfl rfl rfl rfl ?_
          refine g_step_no (j := 6) (t := 41) rfl rfl rfl rfl rfl rfl rfl ?_
          refine g_step rfl (s_val (v_pick_t rfl rfl) rfl rfl ?_)
          refine g_step rfl (s_val (v_assign rfl) rfl rfl ?_)
          refine g_nil ?_
          refine g_next hK9 ?_
          refine g_ret ?_
          refine g_then_ret ?_
          refine g_end1 (.inl rfl) Try.results17 (.tmp rfl) [] (ASub.refl _) (AHeap.sub_refl _) (fun p hp => by cases hp) ⟨rfl, ?_⟩
          first | (rw [has10_dec]; first | exact congrArg AV.bool (decide_eq_true (by omega)).symm | exact congrArg AV.bool (decide_eq_false (by omega)).symm | exact congrArg AV.bool (decide_eq_decide.2 (by omega)); done) | (rw [has10_dec]; first | exact congrArg AV.bool (decide_eq_true (by omega)).symm | exact congrArg AV.bool (decide_eq_false (by omega)).symm | exact congrArg AV.bool (decide_eq_decide.2 (by omega)); rfl)
        · try simp only [decide_eq_true_eq, decide_eq_false_iff_not, Bool.not_eq_true', Bool.not_eq_false', Bool.not_eq_eq_eq_not, Bool.not_true, Bool.not_false, Bool.and_eq_true, Bool.or_eq_true, Bool.or_eq_false_iff, beq_iff_eq, beq_eq_false_iff_ne, ne_eq, Int.not_lt, Int.not_le, Decidable.not_not] at hg37
          refine g_step_yes (j := 2) (t := 37) rfl rfl rfl rfl (s_val (v_move rfl) rfl rfl ?_)
          refine g_step_yes (j := 2) (t := 37) rfl rfl rfl rfl (s_val (v_eql rfl rfl) rfl rfl ?_)
          refine g_step rfl (s_val (v_pick_f rfl rfl) rfl rfl ?_)
          refine g_step rfl (s_val (v_move rfl) rfl rfl ?_)
          refine g_split 41 rfl (fun hg41 => ?_) (fun hg41 => ?_)
          · try simp only [decide_eq_true_eq, decide_eq_false_iff_not, Bool.not_eq_true', Bool.not_eq_false', Bool.not_eq_eq_eq_not, Bool.not_true, Bool.not_false, Bool.and_eq_true, Bool.or_eq_true, Bool.or_eq_false_iff, beq_iff_eq, beq_eq_false_iff_ne, ne_eq, Int.not_lt, Int.not_le, Decidable.not_not] at hg41
            refine g_step_no (j := 6) (t := 41) rfl rfl rfl rfl rfl rfl rfl ?_
            refine g_step_no (j := 6) (t := 41) rfl rfl rfl rfl rfl rfl rfl ?_
            refine g_step rfl (s_val (v_pick_t rfl rfl) rfl rfl ?_)
            refine g_step rfl (s_val (v_assign rfl) rfl rfl ?_)
            refine g_nil ?_
            refine g_next hK9 ?_
            refine g_ret ?_
            refine g_then_ret ?_
            refine g_end1 (.inl rfl) Try.results17 (.tmp rfl) [] (ASub.refl _) (AHeap.sub_refl _) (fun p hp => by cases hp) ⟨rfl, ?_⟩
            first | (rw [has10_dec]; first | exact congrArg AV.bool (decide_eq_true (by omega)).symm | exact congrArg AV.bool (decide_eq_false (by omega)).symm | exact congrArg AV.bool (decide_eq_decide.2 (by omega)); done) | (rw [has10_dec]; first | exact congrArg AV.bool (decide_eq_true (by omega)).symm | exact congrArg AV.bool (decide_eq_false (by omega)).symm | exact congrArg AV.bool (decide_eq_decide.2 (by omega)); rfl)
          · try simp only [decide_eq_true_eq, decide_eq_false_iff_not, Bool.not_eq_true', Bool.not_eq_false', Bool.not_eq_eq_eq_not, Bool.not_true, Bool.not_false, Bool.and_eq_true, Bool.or_eq_true, Bool.or_eq_false_iff, beq_iff_eq, beq_eq_false_iff_ne, ne_eq, Int.not_lt, Int.not_le, Decidable.not_not] at hg41
            refine g_step_yes (j := 6) (t := 41) rfl rfl rfl rfl (s_val (v_move rfl) rfl rfl ?_)
            refine g_step_yes (j := 6) (t := 41) rfl rfl rfl rfl (s_val (v_eql rfl rfl) rfl rfl ?_)
            refine g_step rfl (s_val (v_pick_f rfl rfl) rfl rfl ?_)
            refine g_step rfl (s_val (v_assign rfl) rfl rfl ?_)
            refine g_nil ?_
            refine g_next hK9 ?_
            refine g_ret ?_
            refine g_then_ret ?_
            refine g_end1 (.inl rfl) Try.results17 (.tmp rfl) [] (ASub.refl _) (AHeap.sub_refl _) (fun p hp => by cases hp) ⟨rfl, ?_⟩
            first | (rw [has10_dec]; first | exact congrArg AV.bool (decide_eq_true (by omega)).symm | exact congrArg AV.bool (decide_eq_false (by omega)).symm | exact congrArg AV.bool (decide_eq_decide.2 (by omega)); done) | (rw [has10_dec]; first | exact congrArg AV.bool (decide_eq_true (by omega)).symm | exact congrArg AV.bool (decide_eq_false (by omega)).symm | exact congrArg AV.bool (decide_eq_decide.2 (by omega)); rfl)
      · try simp only [decide_eq_true_eq, decide_eq_false_iff_not, Bool.not_eq_true', Bool.not_eq_false', Bool.not_eq_eq_eq_not, Bool.not_true, Bool.not_false, Bool.and_eq_true, Bool.or_eq_true, Bool.or_eq_false_iff, beq_iff_eq, beq_eq_false_iff_ne, ne_eq, Int.not_lt, Int.not_le, Decidable.not_not] at hc34
        refine g_skip ?_
        refine g_next hK7 ?_
        refine g_seq (fun K10 hK10 => ?_)
        refine g_seq (fun K11 hK11 => ?_)
        refine g_region ?_
        refine g_step rfl (s_val (v_move rfl) rfl rfl ?_)
        refine g_step rfl (s_val (v_eql rfl rfl) rfl rfl ?_)
        refine g_nil ?_
        refine g_next hK11 ?_
        refine g_cond rfl (fun hc46 => ?_) (fun hc46 => ?_)
        · try simp only [decide_eq_true_eq, decide_eq_false_iff_not, Bool.not_eq_true', Bool.not_eq_false', Bool.not_eq_eq_eq_not, Bool.not_true, Bool.not_false, Bool.and_eq_true, Bool.or_eq_true, Bool.or_eq_false_iff, beq_iff_eq, beq_eq_false_iff_ne, ne_eq, Int.not_lt, Int.not_le, Decidable.not_not] at hc46
          refine g_seq (fun K12 hK12 => ?_)
          refine g_region ?_
          refine g_step rfl (s_val (v_move rfl) rfl rfl ?_)
          refine g_step rfl (s_val (v_eql rfl rfl) rfl rfl ?_)
          refine g_step rfl (s_val (v_assign rfl) rfl rfl ?_)
          refine g_nil ?_
          refine g_next hK12 ?_
          refine g_ret ?_
          refine g_then_ret ?_
          refine g_end1 (.inl rfl) Try.results17 (.tmp rfl) [] (ASub.refl _) (AHeap.sub_refl _) (fun p hp => by cases hp) ⟨rfl, ?_⟩
          first | (rw [has10_dec]; first | exact congrArg AV.bool (decide_eq_true (by omega)).symm | exact congrArg AV.bool (decide_eq_false (by omega)).symm | exact congrArg AV.bool (decide_eq_decide.2 (by omega)); done) | (rw [has10_dec]; first | exact congrArg AV.bool (decide_eq_true (by omega)).symm | exact congrArg AV.bool (decide_eq_false (by omega)).symm | exact congrArg AV.bool (decide_eq_decide.2 (by omega)); rfl)
        · try simp only [decide_eq_true_eq, decide_eq_false_iff_not, Bool.not_eq_true', Bool.not_eq_false', Bool.not_eq_eq_eq_not, Bool.not_true, Bool.not_false, Bool.and_eq_true, Bool.or_eq_true, Bool.or_eq_false_iff, beq_iff_eq, beq_eq_false_iff_ne, ne_eq, Int.not_lt, Int.not_le, Decidable.not_not] at hc46
          refine g_skip ?_
          refine g_next hK10 ?_
          refine g_seq (fun K13 hK13 => ?_)
          refine g_region ?_
          refine g_step rfl (s_val (v_move rfl) rfl rfl ?_)
          refine g_step rfl (s_val (v_eql rfl rfl) rfl rfl ?_)
          refine g_step rfl (s_val (v_move rfl) rfl rfl ?_)
          refine g_split 51 rfl (fun hg51 => ?_) (fun hg51 => ?_)
          · try simp only [decide_eq_true_eq, decide_eq_false_iff_not, Bool.not_eq_true', Bool.not_eq_false', Bool.not_eq_eq_eq_not, Bool.not_true, Bool.not_false, Bool.and_eq_true, Bool.or_eq_true, Bool.or_eq_false_iff, beq_iff_eq, beq_eq_false_iff_ne, ne_eq, Int.not_lt, Int.not_le, Decidable.not_not] at hg51
            refine g_step_yes (j := 2) (t := 51) rfl rfl rfl rfl (s_val (v_move rfl) rfl rfl ?_)
            refine g_step_yes (j := 2) (t := 51) rfl rfl rfl rfl (s_val (v_geq rfl rfl) rfl rfl ?_)
            refine g_step rfl (s_val (v_pick_t rfl rfl) rfl rfl ?_)
            refine g_step rfl (s_val (v_move rfl) rfl rfl ?_)
            refine g_split 55 rfl (fun hg55 => ?_) (fun hg55 => ?_)
            · try simp only [decide_eq_true_eq, decide_eq_false_iff_not, Bool.not_eq_true', Bool.not_eq_false', Bool.not_eq_eq_eq_not, Bool.not_true, Bool.not_false, Bool.and_eq_true, Bool.or_eq_true, Bool.or_eq_false_iff, beq_iff_eq, beq_eq_false_iff_ne, ne_eq, Int.not_lt, Int.not_le, Decidable.not_not] at hg55
              refine g_step_yes (j := 6) (t := 55) rfl rfl rfl rfl (s_val (v_move rfl) rfl rfl ?_)
              refine g_step_yes (j := 6) (t := 55) rfl rfl rfl rfl (s_val (v_leq rfl rfl) rfl rfl ?_)
              refine g_step rfl (s_val (v_pick_t rfl rfl) rfl rfl ?_)
              refine g_step rfl (s_val (v_assign rfl) rfl rfl ?_)
              refine g_nil ?_
              refine g_next hK13 ?_
              refine g_ret ?_
              refine g_end1 (.inl rfl) Try.results17 (.tmp rfl) [] (ASub.refl _) (AHeap.sub_refl _) (fun p hp => by cases hp) ⟨rfl, ?_⟩
              first | (rw [has10_dec]; first | exact congrArg AV.bool (decide_eq_true (by omega)).symm | exact congrArg AV.bool (decide_eq_false (by omega)).symm | exact congrArg AV.bool (decide_eq_decide.2 (by omega)); done) | (rw [has10_dec]; first | exact congrArg AV.bool (decide_eq_true (by omega)).symm | exact congrArg AV.bool (decide_eq_false (by omega)).symm | exact congrArg AV.bool (decide_eq_decide.2 (by omega)); rfl)
            · try simp only [decide_eq_true_eq, decide_eq_false_iff_not, Bool.not_eq_true', Bool.not_eq_false', Bool.not_eq_eq_eq_not, Bool.not_true, Bool.not_false, Bool.and_eq_true, Bool.or_eq_true, Bool.or_eq_false_iff, beq_iff_eq, beq_eq_false_iff_ne, ne_eq, Int.not_lt, Int.not_le, Decidable.not_not] at hg55
              refine g_step_no (j := 6) (t := 55) rfl rfl rfl rfl rfl rfl rfl ?_
              refine g_step_no (j := 6) (t := 55) rfl rfl rfl rfl rfl rfl rfl ?_
              refine g_step rfl (s_val (v_pick_f rfl rfl) rfl rfl ?_)
              refine g_step rfl (s_val (v_assign rfl) rfl rfl ?_)
              refine g_nil ?_
              refine g_next hK13 ?_
              refine g_ret ?_
              refine g_end1 (.inl rfl) Try.results17 (.tmp rfl) [] (ASub.refl _) (AHeap.sub_refl _) (fun p hp => by cases hp) ⟨rfl, ?_⟩
              first | (rw [has10_dec]; first | exact congrArg AV.bool (decide_eq_true (by omega)).symm | exact congrArg AV.bool (decide_eq_false (by omega)).symm | exact congrArg AV.bool (decide_eq_decide.2 (by omega)); done) | (rw [has10_dec]; first | exact congrArg AV.bool (decide_eq_true (by omega)).symm | exact congrArg AV.bool (decide_eq_false (by omega)).symm | exact congrArg AV.bool (decide_eq_decide.2 (by omega)); rfl)
          · try simp only [decide_eq_true_eq, decide_eq_false_iff_not, Bool.not_eq_true', Bool.not_eq_false', Bool.not_eq_eq_eq_not, Bool.not_true, Bool.not_false, Bool.and_eq_true, Bool.or_eq_true, Bool.or_eq_false_iff, beq_iff_eq, beq_eq_false_iff_ne, ne_eq, Int.not_lt, Int.not_le, Decidable.not_not] at hg51
            refine g_step_no (j := 2) (t := 51) rfl rfl rfl rfl rfl rfl rfl ?_
            refine g_step_no (j := 2) (t := 51) rfl rfl rfl rfl rfl rfl rfl ?_
            refine g_step rfl (s_val (v_pick_f rfl rfl) rfl rfl ?_)
            refine g_step rfl (s_val (v_move rfl) rfl rfl ?_)
            refine g_step_no (j := 6) (t := 55) rfl rfl rfl rfl rfl rfl rfl ?_
            refine g_step_no (j := 6) (t := 55) rfl rfl rfl rfl rfl rfl rfl ?_
            refine g_step rfl (s_val (v_pick_f rfl rfl) rfl rfl ?_)
            refine g_step rfl (s_val (v_assign rfl) rfl rfl ?_)
            refine g_nil ?_
            refine g_next hK13 ?_
            refine g_ret ?_
            refine g_end1 (.inl rfl) Try.results17 (.tmp rfl) [] (ASub.refl _) (AHeap.sub_refl _) (fun p hp => by cases hp) ⟨rfl, ?_⟩
            first | (rw [has10_dec]; first | exact congrArg AV.bool (decide_eq_true (by omega)).symm | exact congrArg AV.bool (decide_eq_false (by omega)).symm | exact congrArg AV.bool (decide_eq_decide.2 (by omega)); done) | (rw [has10_dec]; first | exact congrArg AV.bool (decide_eq_true (by omega)).symm | exact congrArg AV.bool (decide_eq_false (by omega)).symm | exact congrArg AV.bool (decide_eq_decide.2 (by omega)); rfl)

theorem within_ok (h : Bool) (v lo hi : Int) (G : AHeap) : PCalls Try.prog 50 [.bool h, .int .i64 v, .int .i64 lo, .int .i64 hi] G (fun r => r = .bool (mwithin h v lo hi)) := by
  refine LCalls.intro 21 fi50 rfl Try.ntmps50 rfl (fun _ h => h.elim) (fun H hH w0 hw0 => ?_)
  refine g_seq (fun K0 hK0 => ?_)
  refine g_region ?_
  refine g_step rfl (s_val (v_assign rfl) rfl rfl ?_)
  refine g_nil ?_
  refine g_next hK0 ?_
  refine g_seq (fun K1 hK1 => ?_)
  refine g_seq (fun K2 hK2 => ?_)
  refine g_region ?_
  refine g_step rfl (s_val (v_move rfl) rfl rfl ?_)
  refine g_step rfl (s_val (v_not rfl) rfl rfl ?_)
  refine g_nil ?_
  refine g_next hK2 ?_
  refine g_cond rfl (fun hc10 => ?_) (fun hc10 => ?_)
  · try simp only [decide_eq_true_eq, decide_eq_false_iff_not, Bool.not_eq_true', Bool.not_eq_false', Bool.not_eq_eq_eq_not, Bool.not_true, Bool.not_false, Bool.and_eq_true, Bool.or_eq_true, Bool.or_eq_false_iff, beq_iff_eq, beq_eq_false_iff_ne, ne_eq, Int.not_lt, Int.not_le, Decidable.not_not] at hc10
    refine g_seq (fun K3 hK3 => ?_)
    refine g_region ?_
    refine g_step rfl (s_val (v_move rfl) rfl rfl ?_)
    refine g_step rfl (s_val (v_eql rfl rfl) rfl rfl ?_)
    refine g_step rfl (s_val (v_assign rfl) rfl rfl ?_)
    refine g_nil ?_
    refine g_next hK3 ?_
    refine g_ret ?_
    refine g_then_ret ?_
    refine g_end1 (.inl rfl) Try.results50 (.tmp rfl) [] (ASub.refl _) (AHeap.sub_refl _) (fun p hp => by cases hp) ⟨rfl, ?_⟩
    first | (rw [mwithin, if_neg (by simp_all)]; done) | (rw [mwithin, if_neg (by simp_all)]; rfl)
  · try simp only [decide_eq_true_eq, decide_eq_false_iff_not, Bool.not_eq_true', Bool.not_eq_false', Bool.not_eq_eq_eq_not, Bool.not_true, Bool.not_false, Bool.and_eq_true, Bool.or_eq_true, Bool.or_eq_false_iff, beq_iff_eq, beq_eq_false_iff_ne, ne_eq, Int.not_lt, Int.not_le, Decidable.not_not] at hc10
    refine g_skip ?_
    refine g_next hK1 ?_
    refine g_seq (fun K4 hK4 => ?_)
    refine g_region ?_
    refine g_step rfl (s_val (v_move rfl) rfl rfl ?_)
    refine g_step rfl (s_val (v_move rfl) rfl rfl ?_)
    refine g_step rfl (s_val (v_geq rfl rfl) rfl rfl ?_)
    refine g_step rfl (s_val (v_move rfl) rfl rfl ?_)
    refine g_split 16 rfl (fun hg16 => ?_) (fun hg16 => ?_)
    · try simp only [decide_eq_true_eq, decide_eq_false_iff_not, Bool.not_eq_true', Bool.not_eq_false', Bool.not_eq_eq_eq_not, Bool.not_true, Bool.not_false, Bool.and_eq_true, Bool.or_eq_true, Bool.or_eq_false_iff, beq_iff_eq, beq_eq_false_iff_ne, ne_eq, Int.not_lt, Int.not_le, Decidable.not_not] at hg16
      refine g_step_yes (j := 3) (t := 16) rfl rfl rfl rfl (s_val (v_move rfl) rfl rfl ?_)
      refine g_step_yes (j := 3) (t := 16) rfl rfl rfl rfl (s_val (v_move rfl) rfl rfl ?_)
      refine g_step_yes (j := 3) (t := 16) rfl rfl rfl rfl (s_val (v_leq rfl rfl) rfl rfl ?_)
      refine g_step rfl (s_val (v_pick_t rfl rfl) rfl rfl ?_)
      refine g_step rfl (s_val (v_assign rfl) rfl rfl ?_)
      refine g_nil ?_
      refine g_next hK4 ?_
      refine g_ret ?_
      refine g_end1 (.inl rfl) Try.results50 (.tmp rfl) [] (ASub.refl _) (AHeap.sub_refl _) (fun p hp => by cases hp) ⟨rfl, ?_⟩
      first | (rw [mwithin, if_pos (by simp_all)]; first | exact congrArg AV.bool (decide_eq_true (by omega)).symm | exact congrArg AV.bool (decide_eq_false (by omega)).symm | exact congrArg AV.bool (decide_eq_decide.2 (by omega)); done) | (rw [mwithin, if_pos (by simp_all)]; first | exact congrArg AV.bool (decide_eq_true (by omega)).symm | exact congrArg AV.bool (decide_eq_false (by omega)).symm | exact congrArg AV.bool (decide_eq_decide.2 (by omega)); rfl)
    · try simp only [decide_eq_true_eq, decide_eq_false_iff_not, Bool.not_eq_true', Bool.not_eq_false', Bool.not_eq_eq_eq_not, Bool.not_true, Bool.not_false, Bool.and_eq_true, Bool.or_eq_true, Bool.or_eq_false_iff, beq_iff_eq, beq_eq_false_iff_ne, ne_eq, Int.not_lt, Int.not_le, Decidable.not_not] at hg16
      refine g_step_no (j := 3) (t := 16) rfl rfl rfl rfl rfl rfl rfl ?_
      refine g_step_no (j := 3) (t := 16) rfl rfl rfl rfl rfl rfl rfl ?_
      refine g_step_no (j := 3) (t := 16) rfl rfl rfl rfl rfl rfl rfl ?_
      refine g_step rfl (s_val (v_pick_f rfl rfl) rfl rfl ?_)
      refine g_step rfl (s_val (v_assign rfl) rfl rfl ?_)
      refine g_nil ?_
      refine g_next hK4 ?_
      refine g_ret ?_
      refine g_end1 (.inl rfl) Try.results50 (.tmp rfl) [] (ASub.refl _) (AHeap.sub_refl _) (fun p hp => by cases hp) ⟨rfl, ?_⟩
      first | (rw [mwithin, if_pos (by simp_all)]; first | exact congrArg AV.bool (decide_eq_true (by omega)).symm | exact congrArg AV.bool (decide_eq_false (by omega)).symm | exact congrArg AV.bool (decide_eq_decide.2 (by omega)); done) | (rw [mwithin, if_pos (by simp_all)]; first | exact congrArg AV.bool (decide_eq_true (by omega)).symm | exact congrArg AV.bool (decide_eq_false (by omega)).symm | exact congrArg AV.bool (decide_eq_decide.2 (by omega)); rfl)

theorem lives_ok (m : Mg) (G : AHeap) : PCalls Try.prog 51 [encM m] G (fun r => r = .bool (mlives m)) := by
  refine LCalls.intro 52 fi51 rfl Try.ntmps51 rfl (fun _ h => h.elim) (fun H hH w0 hw0 => ?_)
  refine g_seq (fun K0 hK0 => ?_)
  refine g_region ?_
  refine g_step rfl (s_box rfl rfl rfl rfl ?_)
  refine g_step rfl (s_val (v_assign rfl) rfl rfl ?_)
  refine g_nil ?_
  refine g_next hK0 ?_
  refine g_seq (fun K1 hK1 => ?_)
  refine g_region ?_
  refine g_step rfl (s_fieldAddr ty30 fo30_0 ty3 rfl rfl ?_)
  refine g_step rfl (s_val (v_loadl ty3 rfl rfl rfl rfl) rfl rfl ?_)
  refine g_step rfl (s_callp rfl rfl rfl (has_ok m.kind 2 _) ?_)
  rintro _ rfl
  rw [has10_2]
  refine g_step rfl (s_val (v_assign rfl) rfl rfl ?_)
  refine g_nil ?_
  refine g_next hK1 ?_
  refine g_seq (fun K2 hK2 => ?_)
  refine g_seq (fun K3 hK3 => ?_)
  refine g_region ?_
  refine g_step rfl (s_val (v_move rfl) rfl rfl ?_)
  refine g_step rfl (s_fieldAddr ty30 fo30_6 ty3 rfl rfl ?_)
  refine g_step rfl (s_val (v_loadl ty3 rfl rfl rfl rfl) rfl rfl ?_)
  refine g_step rfl (s_callp rfl rfl rfl (within_ok (decide (m.kind = 7 ∨ m.kind = 8 ∨ m.kind = 9)) m.life 0 281474976710655 _) ?_)
  rintro _ rfl
  rw [mwithin_eq]
  refine g_step rfl (s_val (v_not rfl) rfl rfl ?_)
  refine g_step rfl (s_val (v_move rfl) rfl rfl ?_)
  refine g_split 12 rfl (fun hg12 => ?_) (fun hg12 => ?_)
  · try simp only [decide_eq_true_eq, decide_eq_false_iff_not, Bool.not_eq_true', Bool.not_eq_false', Bool.not_eq_eq_eq_not, Bool.not_true, Bool.not_false, Bool.and_eq_true, Bool.or_eq_true, Bool.or_eq_false_iff, beq_iff_eq, beq_eq_false_iff_ne, ne_eq, Int.not_lt, Int.not_le, Decidable.not_not] at hg12
    refine g_step_no (j := 5) (t := 12) rfl rfl rfl rfl rfl rfl rfl ?_
    refine g_step_no (j := 5) (t := 12) rfl rfl rfl rfl rfl rfl rfl ?_
    refine g_step_no (j := 5) (t := 12) rfl rfl rfl rfl rfl rfl rfl ?_
    refine g_step_no (j := 5) (t := 12) rfl rfl rfl rfl rfl rfl rfl ?_
    refine g_step_no (j := 5) (t := 12) rfl rfl rfl rfl rfl rfl rfl ?_
    refine g_step rfl (s_val (v_pick_t rfl rfl) rfl rfl ?_)
    refine g_nil ?_
    refine g_next hK3 ?_
    refine g_cond rfl (fun _ => ?_) (fun h => by cases h)
    refine g_seq (fun K4 hK4 => ?_)
    refine g_region ?_
    refine g_step rfl (s_val (v_assign rfl) rfl rfl ?_)
    refine g_nil ?_
    refine g_next hK4 ?_
    refine g_ret ?_
    refine g_then_ret ?_
    refine g_end1 (.inl rfl) Try.results51 (.tmp rfl) [] (ASub.refl _) (AHeap.sub_refl _) (fun p hp => by cases hp) ⟨rfl, ?_⟩
    first | (rw [mlives_eq]; first | exact congrArg AV.bool (decide_eq_true (by unfold LivesP; omega)).symm | exact congrArg AV.bool (decide_eq_false (by unfold LivesP; omega)).symm | exact congrArg AV.bool (decide_eq_decide.2 (by unfold LivesP; omega)); done) | (rw [mlives_eq]; first | exact congrArg AV.bool (decide_eq_true (by unfold LivesP; omega)).symm | exact congrArg AV.bool (decide_eq_false (by unfold LivesP; omega)).symm | exact congrArg AV.bool (decide_eq_decide.2 (by unfold LivesP; omega)); rfl)
  · try simp only [decide_eq_true_eq, decide_eq_false_iff_not, Bool.not_eq_true', Bool.not_eq_false', Bool.not_eq_eq_eq_not, Bool.not_true, Bool.not_false, Bool.and_eq_true, Bool.or_eq_true, Bool.or_eq_false_iff, beq_iff_eq, beq_eq_false_iff_ne, ne_eq, Int.not_lt, Int.not_le, Decidable.not_not] at hg12
    refine g_step_yes (j := 5) (t := 12) rfl rfl rfl rfl (s_val (v_move rfl) rfl rfl ?_)
    refine g_step_yes (j := 5) (t := 12) rfl rfl rfl rfl (s_fieldAddr ty30 fo30_7 ty3 rfl rfl ?_)
    refine g_step_yes (j := 5) (t := 12) rfl rfl rfl rfl (s_val (v_loadl ty3 rfl rfl rfl rfl) rfl rfl ?_)
    refine g_step_yes (j := 5) (t := 12) rfl rfl rfl rfl (s_callp rfl rfl rfl (within_ok (decide (m.kind = 7 ∨ m.kind = 8 ∨ m.kind = 9)) m.epoch 0 65535 _) ?_)
    rintro _ rfl
    rw [mwithin_eq]
    refine g_step_yes (j := 5) (t := 12) rfl rfl rfl rfl (s_val (v_not rfl) rfl rfl ?_)
    refine g_step rfl (s_val (v_pick_f rfl rfl) rfl rfl ?_)
    refine g_nil ?_
    refine g_next hK3 ?_
    refine g_cond rfl (fun hc18 => ?_) (fun hc18 => ?_)
    · try simp only [decide_eq_true_eq, decide_eq_false_iff_not, Bool.not_eq_true', Bool.not_eq_false', Bool.not_eq_eq_eq_not, Bool.not_true, Bool.not_false, Bool.and_eq_true, Bool.or_eq_true, Bool.or_eq_false_iff, beq_iff_eq, beq_eq_false_iff_ne, ne_eq, Int.not_lt, Int.not_le, Decidable.not_not] at hc18
      refine g_seq (fun K5 hK5 => ?_)
      refine g_region ?_
      refine g_step rfl (s_val (v_assign rfl) rfl rfl ?_)
      refine g_nil ?_
      refine g_next hK5 ?_
      refine g_ret ?_
      refine g_then_ret ?_
      refine g_end1 (.inl rfl) Try.results51 (.tmp rfl) [] (ASub.refl _) (AHeap.sub_refl _) (fun p hp => by cases hp) ⟨rfl, ?_⟩
      first | (rw [mlives_eq]; first | exact congrArg AV.bool (decide_eq_true (by unfold LivesP; omega)).symm | exact congrArg AV.bool (decide_eq_false (by unfold LivesP; omega)).symm | exact congrArg AV.bool (decide_eq_decide.2 (by unfold LivesP; omega)); done) | (rw [mlives_eq]; first | exact congrArg AV.bool (decide_eq_true (by unfold LivesP; omega)).symm | exact congrArg AV.bool (decide_eq_false (by unfold LivesP; omega)).symm | exact congrArg AV.bool (decide_eq_decide.2 (by unfold LivesP; omega)); rfl)
    · try simp only [decide_eq_true_eq, decide_eq_false_iff_not, Bool.not_eq_true', Bool.not_eq_false', Bool.not_eq_eq_eq_not, Bool.not_true, Bool.not_false, Bool.and_eq_true, Bool.or_eq_true, Bool.or_eq_false_iff, beq_iff_eq, beq_eq_false_iff_ne, ne_eq, Int.not_lt, Int.not_le, Decidable.not_not] at hc18
      refine g_skip ?_
      refine g_next hK2 ?_
      refine g_seq (fun K6 hK6 => ?_)
      refine g_seq (fun K7 hK7 => ?_)
      refine g_region ?_
      refine g_step rfl (s_fieldAddr ty30 fo30_7 ty3 rfl rfl ?_)
      refine g_step rfl (s_val (v_loadl ty3 rfl rfl rfl rfl) rfl rfl ?_)
      refine g_step rfl (s_val (v_eql rfl rfl) rfl rfl ?_)
      refine g_step rfl (s_val (v_move rfl) rfl rfl ?_)
      refine g_split 22 rfl (fun hg22 => ?_) (fun hg22 => ?_)
      · try simp only [decide_eq_true_eq, decide_eq_false_iff_not, Bool.not_eq_true', Bool.not_eq_false', Bool.not_eq_eq_eq_not, Bool.not_true, Bool.not_false, Bool.and_eq_true, Bool.or_eq_true, Bool.or_eq_false_iff, beq_iff_eq, beq_eq_false_iff_ne, ne_eq, Int.not_lt, Int.not_le, Decidable.not_not] at hg22
        refine g_step_yes (j := 3) (t := 22) rfl rfl rfl rfl (s_fieldAddr ty30 fo30_6 ty3 rfl rfl ?_)
        refine g_step_yes (j := 3) (t := 22) rfl rfl rfl rfl (s_val (v_loadl ty3 rfl rfl rfl rfl) rfl rfl ?_)
        refine g_step_yes (j := 3) (t := 22) rfl rfl rfl rfl (s_val (v_neq rfl rfl) rfl rfl ?_)
        refine g_step_yes (j := 3) (t := 22) rfl rfl rfl rfl (s_val (v_move rfl) rfl rfl ?_)
        refine g_split 26 rfl (fun hg26 => ?_) (fun hg26 => ?_)
        · try simp only [decide_eq_true_eq, decide_eq_false_iff_not, Bool.not_eq_true', Bool.not_eq_false', Bool.not_eq_eq_eq_not, Bool.not_true, Bool.not_false, Bool.and_eq_true, Bool.or_eq_true, Bool.or_eq_false_iff, beq_iff_eq, beq_eq_false_iff_ne, ne_eq, Int.not_lt, Int.not_le, Decidable.not_not] at hg26
          refine g_step_no (j := 7) (t := 26) rfl rfl rfl rfl rfl rfl rfl ?_
          refine g_step_no (j := 7) (t := 26) rfl rfl rfl rfl rfl rfl rfl ?_
          refine g_step_no (j := 7) (t := 26) rfl rfl rfl rfl rfl rfl rfl ?_
          refine g_step_yes (j := 3) (t := 22) rfl rfl rfl rfl (s_val (v_pick_t rfl rfl) rfl rfl ?_)
          refine g_step rfl (s_val (v_pick_t rfl rfl) rfl rfl ?_)
          refine g_nil ?_
          refine g_next hK7 ?_
          first | refine g_keep [31] [1] [1] (keep_cons rfl keep_nil) (lkeep_cons rfl lkeep_nil) (keep_cons rfl keep_nil) rfl ?_ | refine g_keep [31] [1] [1] rfl rfl rfl rfl ?_
          refine g_cond rfl (fun _ => ?_) (fun h => by cases h)
          refine g_seq (fun K8 hK8 => ?_)
          refine g_region ?_
          refine g_step rfl (s_val (v_assign rfl) rfl rfl ?_)
          refine g_nil ?_
          refine g_next hK8 ?_
          refine g_ret ?_
          refine g_then_ret ?_
          refine g_end1 (.inl rfl) Try.results51 (.tmp rfl) [] (ASub.refl _) (AHeap.sub_refl _) (fun p hp => by cases hp) ⟨rfl, ?_⟩
          first | (rw [mlives_eq]; first | exact congrArg AV.bool (decide_eq_true (by unfold LivesP; omega)).symm | exact congrArg AV.bool (decide_eq_false (by unfold LivesP; omega)).symm | exact congrArg AV.bool (decide_eq_decide.2 (by unfold LivesP; omega)); done) | (rw [mlives_eq]; first | exact congrArg AV.bool (decide_eq_true (by unfold LivesP; omega)).symm | exact congrArg AV.bool (decide_eq_false (by unfold LivesP; omega)).symm | exact congrArg AV.bool (decide_eq_decide.2 (by unfold LivesP; omega)); rfl)
        · try simp only [decide_eq_true_eq, decide_eq_false_iff_not, Bool.not_eq_true', Bool.not_eq_false', Bool.not_eq_eq_eq_not, Bool.not_true, Bool.not_false, Bool.and_eq_true, Bool.or_eq_true, Bool.or_eq_false_iff, beq_iff_eq, beq_eq_false_iff_ne, ne_eq, Int.not_lt, Int.not_le, Decidable.not_not] at hg26
          refine g_step_yes (j := 7) (t := 26) rfl rfl rfl rfl (s_fieldAddr ty30 fo30_0 ty3 rfl rfl ?_)
          refine g_step_yes (j := 7) (t := 26) rfl rfl rfl rfl (s_val (v_loadl ty3 rfl rfl rfl rfl) rfl rfl ?_)
          refine g_step_yes (j := 7) (t := 26) rfl rfl rfl rfl (s_val (v_eql rfl rfl) rfl rfl ?_)
          refine g_step_yes (j := 3) (t := 22) rfl rfl rfl rfl (s_val (v_pick_f rfl rfl) rfl rfl ?_)
          refine g_step rfl (s_val (v_pick_t rfl rfl) rfl rfl ?_)
          refine g_nil ?_
          refine g_next hK7 ?_
          first | refine g_keep [31] [1] [1] (keep_cons rfl keep_nil) (lkeep_cons rfl lkeep_nil) (keep_cons rfl keep_nil) rfl ?_ | refine g_keep [31] [1] [1] rfl rfl rfl rfl ?_
          refine g_cond rfl (fun hc31 => ?_) (fun hc31 => ?_)
          · try simp only [decide_eq_true_eq, decide_eq_false_iff_not, Bool.not_eq_true', Bool.not_eq_false', Bool.not_eq_eq_eq_not, Bool.not_true, Bool.not_false, Bool.and_eq_true, Bool.or_eq_true, Bool.or_eq_false_iff, beq_iff_eq, beq_eq_false_iff_ne, ne_eq, Int.not_lt, Int.not_le, Decidable.not_not] at hc31
            refine g_seq (fun K9 hK9 => ?_)
            refine g_region ?_
            refine g_step rfl (s_val (v_assign rfl) rfl rfl ?_)
            refine g_nil ?_
            refine g_next hK9 ?_
            refine g_ret ?_
            refine g_then_ret ?_
            refine g_end1 (.inl rfl) Try.results51 (.tmp rfl) [] (ASub.refl _) (AHeap.sub_refl _) (fun p hp => by cases hp) ⟨rfl, ?_⟩
            first | (rw [mlives_eq]; first | exact congrArg AV.bool (decide_eq_true (by unfold LivesP; omega)).symm | exact congrArg AV.bool (decide_eq_false (by unfold LivesP; omega)).symm | exact congrArg AV.bool (decide_eq_decide.2 (by unfold LivesP; omega)); done) | (rw [mlives_eq]; first | exact congrArg AV.bool (decide_eq_true (by unfold LivesP; omega)).symm | exact congrArg AV.bool (decide_eq_false (by unfold LivesP; omega)).symm | exact congrArg AV.bool (decide_eq_decide.2 (by unfold LivesP; omega)); rfl)
          · try simp only [decide_eq_true_eq, decide_eq_false_iff_not, Bool.not_eq_true', Bool.not_eq_false', Bool.not_eq_eq_eq_not, Bool.not_true, Bool.not_false, Bool.and_eq_true, Bool.or_eq_true, Bool.or_eq_false_iff, beq_iff_eq, beq_eq_false_iff_ne, ne_eq, Int.not_lt, Int.not_le, Decidable.not_not] at hc31
            refine g_skip ?_
            refine g_next hK6 ?_
            refine g_seq (fun K10 hK10 => ?_)
            refine g_region ?_
            refine g_step rfl (s_fieldAddr ty30 fo30_8 ty3 rfl rfl ?_)
            refine g_step rfl (s_val (v_loadl ty3 rfl rfl rfl rfl) rfl rfl ?_)
            refine g_step rfl (s_val (v_eql rfl rfl) rfl rfl ?_)
            refine g_step rfl (s_val (v_move rfl) rfl rfl ?_)
            refine g_split 35 rfl (fun hg35 => ?_) (fun hg35 => ?_)
            · try simp only [decide_eq_true_eq, decide_eq_false_iff_not, Bool.not_eq_true', Bool.not_eq_false', Bool.not_eq_eq_eq_not, Bool.not_true, Bool.not_false, Bool.and_eq_true, Bool.or_eq_true, Bool.or_eq_false_iff, beq_iff_eq, beq_eq_false_iff_ne, ne_eq, Int.not_lt, Int.not_le, Decidable.not_not] at hg35
              refine g_step_no (j := 3) (t := 35) rfl rfl rfl rfl rfl rfl rfl ?_
              refine g_step_no (j := 3) (t := 35) rfl rfl rfl rfl rfl rfl rfl ?_
              refine g_step_no (j := 3) (t := 35) rfl rfl rfl rfl rfl rfl rfl ?_
              refine g_step_no (j := 3) (t := 35) rfl rfl rfl rfl rfl rfl rfl ?_
              refine g_step_und (j := 7) (t := 39) rfl rfl rfl rfl rfl rfl ?_
              refine g_step_und (j := 7) (t := 39) rfl rfl rfl rfl rfl rfl ?_
              refine g_step_und (j := 7) (t := 39) rfl rfl rfl rfl rfl rfl ?_
              refine g_step_no (j := 3) (t := 35) rfl rfl rfl rfl rfl rfl rfl ?_
              refine g_step_no (j := 3) (t := 35) rfl rfl rfl rfl rfl rfl rfl ?_
              refine g_step_und (j := 12) (t := 44) rfl rfl rfl rfl rfl rfl ?_
              refine g_step_und (j := 12) (t := 44) rfl rfl rfl rfl rfl rfl ?_
              refine g_step_und (j := 12) (t := 44) rfl rfl rfl rfl rfl rfl ?_
              refine g_step_und (j := 12) (t := 44) rfl rfl rfl rfl rfl rfl ?_
              refine g_step_und (j := 12) (t := 44) rfl rfl rfl rfl rfl rfl ?_
              refine g_step_no (j := 3) (t := 35) rfl rfl rfl rfl rfl rfl rfl ?_
              refine g_step rfl (s_val (v_pick_t rfl rfl) rfl rfl ?_)
              refine g_step rfl (s_val (v_assign rfl) rfl rfl ?_)
              refine g_nil ?_
              refine g_next hK10 ?_
              refine g_ret ?_
              refine g_end1 (.inl rfl) Try.results51 (.tmp rfl) [] (ASub.refl _) (AHeap.sub_refl _) (fun p hp => by cases hp) ⟨rfl, ?_⟩
              first | (rw [mlives_eq]; first | exact congrArg AV.bool (decide_eq_true (by unfold LivesP; omega)).symm | exact congrArg AV.bool (decide_eq_false (by unfold LivesP; omega)).symm | exact congrArg AV.bool (decide_eq_decide.2 (by unfold LivesP; omega)); done) | (rw [mlives_eq]; first | exact congrArg AV.bool (decide_eq_true (by unfold LivesP; omega)).symm | exact congrArg AV.bool (decide_eq_false (by unfold LivesP; omega)).symm | exact congrArg AV.bool (decide_eq_decide.2 (by unfold LivesP; omega)); rfl)
            · try simp only [decide_eq_true_eq, decide_eq_false_iff_not, Bool.not_eq_true', Bool.not_eq_false', Bool.not_eq_eq_eq_not, Bool.not_true, Bool.not_false, Bool.and_eq_true, Bool.or_eq_true, Bool.or_eq_false_iff, beq_iff_eq, beq_eq_false_iff_ne, ne_eq, Int.not_lt, Int.not_le, Decidable.not_not] at hg35
              refine g_step_yes (j := 3) (t := 35) rfl rfl rfl rfl (s_fieldAddr ty30 fo30_0 ty3 rfl rfl ?_)
              refine g_step_yes (j := 3) (t := 35) rfl rfl rfl rfl (s_val (v_loadl ty3 rfl rfl rfl rfl) rfl rfl ?_)
              refine g_step_yes (j := 3) (t := 35) rfl rfl rfl rfl (s_callp rfl rfl rfl (has_ok m.kind 3 _) ?_)
              rintro _ rfl
              rw [has10_3]
              refine g_step_yes (j := 3) (t := 35) rfl rfl rfl rfl (s_val (v_move rfl) rfl rfl ?_)
              refine g_split 39 rfl (fun hg39 => ?_) (fun hg39 => ?_)
              · try simp only [decide_eq_true_eq, decide_eq_false_iff_not, Bool.not_eq_true', Bool.not_eq_false', Bool.not_eq_eq_eq_not, Bool.not_true, Bool.not_false, Bool.and_eq_true, Bool.or_eq_true, Bool.or_eq_false_iff, beq_iff_eq, beq_eq_false_iff_ne, ne_eq, Int.not_lt, Int.not_le, Decidable.not_not] at hg39
                refine g_step_yes (j := 7) (t := 39) rfl rfl rfl rfl (s_fieldAddr ty30 fo30_8 ty3 rfl rfl ?_)
                refine g_step_yes (j := 7) (t := 39) rfl rfl rfl rfl (s_val (v_loadl ty3 rfl rfl rfl rfl) rfl rfl ?_)
                refine g_step_yes (j := 7) (t := 39) rfl rfl rfl rfl (s_val (v_gtr rfl rfl) rfl rfl ?_)
                refine g_step_yes (j := 3) (t := 35) rfl rfl rfl rfl (s_val (v_pick_t rfl rfl) rfl rfl ?_)
                refine g_step_yes (j := 3) (t := 35) rfl rfl rfl rfl (s_val (v_move rfl) rfl rfl ?_)
                refine g_split 44 rfl (fun hg44 => ?_) (fun hg44 => ?_)
                · try simp only [decide_eq_true_eq, decide_eq_false_iff_not, Bool.not_eq_true', Bool.not_eq_false', Bool.not_eq_eq_eq_not, Bool.not_true, Bool.not_false, Bool.and_eq_true, Bool.or_eq_true, Bool.or_eq_false_iff, beq_iff_eq, beq_eq_false_iff_ne, ne_eq, Int.not_lt, Int.not_le, Decidable.not_not] at hg44
                  refine g_step_yes (j := 12) (t := 44) rfl rfl rfl rfl (s_fieldAddr ty30 fo30_8 ty3 rfl rfl ?_)
                  refine g_step_yes (j := 12) (t := 44) rfl rfl rfl rfl (s_val (v_loadl ty3 rfl rfl rfl rfl) rfl rfl ?_)
                  refine g_step_yes (j := 12) (t := 44) rfl rfl rfl rfl (s_fieldAddr ty30 fo30_7 ty3 rfl rfl ?_)
                  refine g_step_yes (j := 12) (t := 44) rfl rfl rfl rfl (s_val (v_loadl ty3 rfl rfl rfl rfl) rfl rfl ?_)
                  refine g_step_yes (j := 12) (t := 44) rfl rfl rfl rfl (s_val (v_lss rfl rfl) rfl rfl ?_)
                  refine g_step_yes (j := 3) (t := 35) rfl rfl rfl rfl (s_val (v_pick_t rfl rfl) rfl rfl ?_)
                  refine g_step rfl (s_val (v_pick_f rfl rfl) rfl rfl ?_)
                  refine g_step rfl (s_val (v_assign rfl) rfl rfl ?_)
                  refine g_nil ?_
                  refine g_next hK10 ?_
                  refine g_ret ?_
                  refine g_end1 (.inl rfl) Try.results51 (.tmp rfl) [] (ASub.refl _) (AHeap.sub_refl _) (fun p hp => by cases hp) ⟨rfl, ?_⟩
                  first | (rw [mlives_eq]; first | exact congrArg AV.bool (decide_eq_true (by unfold LivesP; omega)).symm | exact congrArg AV.bool (decide_eq_false (by unfold LivesP; omega)).symm | exact congrArg AV.bool (decide_eq_decide.2 (by unfold LivesP; omega)); done) | (rw [mlives_eq]; first | exact congrArg AV.bool (decide_eq_true (by unfold LivesP; omega)).symm | exact congrArg AV.bool (decide_eq_false (by unfold LivesP; omega)).symm | exact congrArg AV.bool (decide_eq_decide.2 (by unfold LivesP; omega)); rfl)
                · try simp only [decide_eq_true_eq, decide_eq_false_iff_not, Bool.not_eq_true', Bool.not_eq_false', Bool.not_eq_eq_eq_not, Bool.not_true, Bool.not_false, Bool.and_eq_true, Bool.or_eq_true, Bool.or_eq_false_iff, beq_iff_eq, beq_eq_false_iff_ne, ne_eq, Int.not_lt, Int.not_le, Decidable.not_not] at hg44
                  refine g_step_no (j := 12) (t := 44) rfl rfl rfl rfl rfl rfl rfl ?_
                  refine g_step_no (j := 12) (t := 44) rfl rfl rfl rfl rfl rfl rfl ?_
                  refine g_step_no (j := 12) (t := 44) rfl rfl rfl rfl rfl rfl rfl ?_
                  refine g_step_no (j := 12) (t := 44) rfl rfl rfl rfl rfl rfl rfl ?_
                  refine g_step_no (j := 12) (t := 44) rfl rfl rfl rfl rfl rfl rfl ?_
                  refine g_step_yes (j := 3) (t := 35) rfl rfl rfl rfl (s_val (v_pick_f rfl rfl) rfl rfl ?_)
                  refine g_step rfl (s_val (v_pick_f rfl rfl) rfl rfl ?_)
                  refine g_step rfl (s_val (v_assign rfl) rfl rfl ?_)
                  refine g_nil ?_
                  refine g_next hK10 ?_
                  refine g_ret ?_
                  refine g_end1 (.inl rfl) Try.results51 (.tmp rfl) [] (ASub.refl _) (AHeap.sub_refl _) (fun p hp => by cases hp) ⟨rfl, ?_⟩
                  first | (rw [mlives_eq]; first | exact congrArg AV.bool (decide_eq_true (by unfold LivesP; omega)).symm | exact congrArg AV.bool (decide_eq_false (by unfold LivesP; omega)).symm | exact congrArg AV.bool (decide_eq_decide.2 (by unfold LivesP; omega)); done) | (rw [mlives_eq]; first | exact congrArg AV.bool (decide_eq_true (by unfold LivesP; omega)).symm | exact congrArg AV.bool (decide_eq_false (by unfold LivesP; omega)).symm | exact congrArg AV.bool (decide_eq_decide.2 (by unfold LivesP; omega)); rfl)
              · try simp only [decide_eq_true_eq, decide_eq_false_iff_not, Bool.not_eq_true', Bool.not_eq_false', Bool.not_eq_eq_eq_not, Bool.not_true, Bool.not_false, Bool.and_eq_true, Bool.or_eq_true, Bool.or_eq_false_iff, beq_iff_eq, beq_eq_false_iff_ne, ne_eq, Int.not_lt, Int.not_le, Decidable.not_not] at hg39
                refine g_step_no (j := 7) (t := 39) rfl rfl rfl rfl rfl rfl rfl ?_
                refine g_step_no (j := 7) (t := 39) rfl rfl rfl rfl rfl rfl rfl ?_
                refine g_step_no (j := 7) (t := 39) rfl rfl rfl rfl rfl rfl rfl ?_
                refine g_step_yes (j := 3) (t := 35) rfl rfl rfl rfl (s_val (v_pick_f rfl rfl) rfl rfl ?_)
                refine g_step_yes (j := 3) (t := 35) rfl rfl rfl rfl (s_val (v_move rfl) rfl rfl ?_)
                refine g_step_no (j := 12) (t := 44) rfl rfl rfl rfl rfl rfl rfl ?_
                refine g_step_no (j := 12) (t := 44) rfl rfl rfl rfl rfl rfl rfl ?_
                refine g_step_no (j := 12) (t := 44) rfl rfl rfl rfl rfl rfl rfl ?_
                refine g_step_no (j := 12) (t := 44) rfl rfl rfl rfl rfl rfl rfl ?_
                refine g_step_no (j := 12) (t := 44) rfl rfl rfl rfl rfl rfl rfl ?_
                refine g_step_yes (j := 3) (t := 35) rfl rfl rfl rfl (s_val (v_pick_f rfl rfl) rfl rfl ?_)
                refine g_step rfl (s_val (v_pick_f rfl rfl) rfl rfl ?_)
                refine g_step rfl (s_val (v_assign rfl) rfl rfl ?_)
                refine g_nil ?_
                refine g_next hK10 ?_
                refine g_ret ?_
                refine g_end1 (.inl rfl) Try.results51 (.tmp rfl) [] (ASub.refl _) (AHeap.sub_refl _) (fun p hp => by cases hp) ⟨rfl, ?_⟩
                first | (rw [mlives_eq]; first | exact congrArg AV.bool (decide_eq_true (by unfold LivesP; omega)).symm | exact congrArg AV.bool (decide_eq_false (by unfold LivesP; omega)).symm | exact congrArg AV.bool (decide_eq_decide.2 (by unfold LivesP; omega)); done) | (rw [mlives_eq]; first | exact congrArg AV.bool (decide_eq_true (by unfold LivesP; omega)).symm | exact congrArg AV.bool (decide_eq_false (by unfold LivesP; omega)).symm | exact congrArg AV.bool (decide_eq_decide.2 (by unfold LivesP; omega)); rfl)
      · try simp only [decide_eq_true_eq, decide_eq_false_iff_not, Bool.not_eq_true', Bool.not_eq_false', Bool.not_eq_eq_eq_not, Bool.not_true, Bool.not_false, Bool.and_eq_true, Bool.or_eq_true, Bool.or_eq_false_iff, beq_iff_eq, beq_eq_false_iff_ne, ne_eq, Int.not_lt, Int.not_le, Decidable.not_not] at hg22
        refine g_step_no (j := 3) (t := 22) rfl rfl rfl rfl rfl rfl rfl ?_
        refine g_step_no (j := 3) (t := 22) rfl rfl rfl rfl rfl rfl rfl ?_
        refine g_step_no (j := 3) (t := 22) rfl rfl rfl rfl rfl rfl rfl ?_
        refine g_step_no (j := 3) (t := 22) rfl rfl rfl rfl rfl rfl rfl ?_
        refine g_step_und (j := 7) (t := 26) rfl rfl rfl rfl rfl rfl ?_
        refine g_step_und (j := 7) (t := 26) rfl rfl rfl rfl rfl rfl ?_
        refine g_step_und (j := 7) (t := 26) rfl rfl rfl rfl rfl rfl ?_
        refine g_step_no (j := 3) (t := 22) rfl rfl rfl rfl rfl rfl rfl ?_
        refine g_step rfl (s_val (v_pick_f rfl rfl) rfl rfl ?_)
        refine g_nil ?_
        refine g_next hK7 ?_
        first | refine g_keep [31] [1] [1] (keep_cons rfl keep_nil) (lkeep_cons rfl lkeep_nil) (keep_cons rfl keep_nil) rfl ?_ | refine g_keep [31] [1] [1] rfl rfl rfl rfl ?_
        refine g_cond rfl (fun h => by cases h) (fun _ => ?_)
        refine g_skip ?_
        refine g_next hK6 ?_
        refine g_seq (fun K11 hK11 => ?_)
        refine g_region ?_
        refine g_step rfl (s_fieldAddr ty30 fo30_8 ty3 rfl rfl ?_)
        refine g_step rfl (s_val (v_loadl ty3 rfl rfl rfl rfl) rfl rfl ?_)
        refine g_step rfl (s_val (v_eql rfl rfl) rfl rfl ?_)
        refine g_step rfl (s_val (v_move rfl) rfl rfl ?_)
        refine g_split 35 rfl (fun hg35 => ?_) (fun hg35 => ?_)
        · try simp only [decide_eq_true_eq, decide_eq_false_iff_not, Bool.not_eq_true', Bool.not_eq_false', Bool.not_eq_eq_eq_not, Bool.not_true, Bool.not_false, Bool.and_eq_true, Bool.or_eq_true, Bool.or_eq_false_iff, beq_iff_eq, beq_eq_false_iff_ne, ne_eq, Int.not_lt, Int.not_le, Decidable.not_not] at hg35
          refine g_step_no (j := 3) (t := 35) rfl rfl rfl rfl rfl rfl rfl ?_
          refine g_step_no (j := 3) (t := 35) rfl rfl rfl rfl rfl rfl rfl ?_
          refine g_step_no (j := 3) (t := 35) rfl rfl rfl rfl rfl rfl rfl ?_
          refine g_step_no (j := 3) (t := 35) rfl rfl rfl rfl rfl rfl rfl ?_
          refine g_step_und (j := 7) (t := 39) rfl rfl rfl rfl rfl rfl ?_
          refine g_step_und (j := 7) (t := 39) rfl rfl rfl rfl rfl rfl ?_
          refine g_step_und (j := 7) (t := 39) rfl rfl rfl rfl rfl rfl ?_
          refine g_step_no (j := 3) (t := 35) rfl rfl rfl rfl rfl rfl rfl ?_
          refine g_step_no (j := 3) (t := 35) rfl rfl rfl rfl rfl rfl rfl ?_
          refine g_step_und (j := 12) (t := 44) rfl rfl rfl rfl rfl rfl ?_
          refine g_step_und (j := 12) (t := 44) rfl rfl rfl rfl rfl rfl ?_
          refine g_step_und (j := 12) (t := 44) rfl rfl rfl rfl rfl rfl ?_
          refine g_step_und (j := 12) (t := 44) rfl rfl rfl rfl rfl rfl ?_
          refine g_step_und (j := 12) (t := 44) rfl rfl rfl rfl rfl rfl ?_
          refine g_step_no (j := 3) (t := 35) rfl rfl rfl rfl rfl rfl rfl ?_
          refine g_step rfl (s_val (v_pick_t rfl rfl) rfl rfl ?_)
          refine g_step rfl (s_val (v_assign rfl) rfl rfl ?_)
          refine g_nil ?_
          refine g_next hK11 ?_
          refine g_ret ?_
          refine g_end1 (.inl rfl) Try.results51 (.tmp rfl) [] (ASub.refl _) (AHeap.sub_refl _) (fun p hp => by cases hp) ⟨rfl, ?_⟩
          first | (rw [mlives_eq]; first | exact congrArg AV.bool (decide_eq_true (by unfold LivesP; omega)).symm | exact congrArg AV.bool (decide_eq_false (by unfold LivesP; omega)).symm | exact congrArg AV.bool (decide_eq_decide.2 (by unfold LivesP; omega)); done) | (rw [mlives_eq]; first | exact congrArg AV.bool (decide_eq_true (by unfold LivesP; omega)).symm | exact congrArg AV.bool (decide_eq_false (by unfold LivesP; omega)).symm | exact congrArg AV.bool (decide_eq_decide.2 (by unfold LivesP; omega)); rfl)
        · try simp only [decide_eq_true_eq, decide_eq_false_iff_not, Bool.not_eq_true', Bool.not_eq_false', Bool.not_eq_eq_eq_not, Bool.not_true, Bool.not_false, Bool.and_eq_true, Bool.or_eq_true, Bool.or_eq_false_iff, beq_iff_eq, beq_eq_false_iff_ne, ne_eq, Int.not_lt, Int.not_le, Decidable.not_not] at hg35
          refine g_step_yes (j := 3) (t := 35) rfl rfl rfl rfl (s_fieldAddr ty30 fo30_0 ty3 rfl rfl ?_)
          refine g_step_yes (j := 3) (t := 35) rfl rfl rfl rfl (s_val (v_loadl ty3 rfl rfl rfl rfl) rfl rfl ?_)
          refine g_step_yes (j := 3) (t := 35) rfl rfl rfl rfl (s_callp rfl rfl rfl (has_ok m.kind 3 _) ?_)
          rintro _ rfl
          rw [has10_3]
          refine g_step_yes (j := 3) (t := 35) rfl rfl rfl rfl (s_val (v_move rfl) rfl rfl ?_)
          refine g_split 39 rfl (fun hg39 => ?_) (fun hg39 => ?_)
          · try simp only [decide_eq_true_eq, decide_eq_false_iff_not, Bool.not_eq_true', Bool.not_eq_false', Bool.not_eq_eq_eq_not, Bool.not_true, Bool.not_false, Bool.and_eq_true, Bool.or_eq_true, Bool.or_eq_false_iff, beq_iff_eq, beq_eq_false_iff_ne, ne_eq, Int.not_lt, Int.not_le, Decidable.not_not] at hg39
            refine g_step_yes (j := 7) (t := 39) rfl rfl rfl rfl (s_fieldAddr ty30 fo30_8 ty3 rfl rfl ?_)
            refine g_step_yes (j := 7) (t := 39) rfl rfl rfl rfl (s_val (v_loadl ty3 rfl rfl rfl rfl) rfl rfl ?_)
            refine g_step_yes (j := 7) (t := 39) rfl rfl rfl rfl (s_val (v_gtr rfl rfl) rfl rfl ?_)
            refine g_step_yes (j := 3) (t := 35) rfl rfl rfl rfl (s_val (v_pick_t rfl rfl) rfl rfl ?_)
            refine g_step_yes (j := 3) (t := 35) rfl rfl rfl rfl (s_val (v_move rfl) rfl rfl ?_)
            refine g_split 44 rfl (fun hg44 => ?_) (fun hg44 => ?_)
            · try simp only [decide_eq_true_eq, decide_eq_false_iff_not, Bool.not_eq_true', Bool.not_eq_false', Bool.not_eq_eq_eq_not, Bool.not_true, Bool.not_false, Bool.and_eq_true, Bool.or_eq_true, Bool.or_eq_false_iff, beq_iff_eq, beq_eq_false_iff_ne, ne_eq, Int.not_lt, Int.not_le, Decidable.not_not] at hg44
              refine g_step_yes (j := 12) (t := 44) rfl rfl rfl rfl (s_fieldAddr ty30 fo30_8 ty3 rfl rfl ?_)
              refine g_step_yes (j := 12) (t := 44) rfl rfl rfl rfl (s_val (v_loadl ty3 rfl rfl rfl rfl) rfl rfl ?_)
              refine g_step_yes (j := 12) (t := 44) rfl rfl rfl rfl (s_fieldAddr ty30 fo30_7 ty3 rfl rfl ?_)
              refine g_step_yes (j := 12) (t := 44) rfl rfl rfl rfl (s_val (v_loadl ty3 rfl rfl rfl rfl) rfl rfl ?_)
              refine g_step_yes (j := 12) (t := 44) rfl rfl rfl rfl (s_val (v_lss rfl rfl) rfl rfl ?_)
              refine g_step_yes (j := 3) (t := 35) rfl rfl rfl rfl (s_val (v_pick_t rfl rfl) rfl rfl ?_)
              refine g_step rfl (s_val (v_pick_f rfl rfl) rfl rfl ?_)
              refine g_step rfl (s_val (v_assign rfl) rfl rfl ?_)
              refine g_nil ?_
              refine g_next hK11 ?_
              refine g_ret ?_
              refine g_end1 (.inl rfl) Try.results51 (.tmp rfl) [] (ASub.refl _) (AHeap.sub_refl _) (fun p hp => by cases hp) ⟨rfl, ?_⟩
              first | (rw [mlives_eq]; first | exact congrArg AV.bool (decide_eq_true (by unfold LivesP; omega)).symm | exact congrArg AV.bool (decide_eq_false (by unfold LivesP; omega)).symm | exact congrArg AV.bool (decide_eq_decide.2 (by unfold LivesP; omega)); done) | (rw [mlives_eq]; first | exact congrArg AV.bool (decide_eq_true (by unfold LivesP; omega)).symm | exact congrArg AV.bool (decide_eq_false (by unfold LivesP; omega)).symm | exact congrArg AV.bool (decide_eq_decide.2 (by unfold LivesP; omega)); rfl)
            · try simp only [decide_eq_true_eq, decide_eq_false_iff_not, Bool.not_eq_true', Bool.not_eq_false', Bool.not_eq_eq_eq_not, Bool.not_true, Bool.not_false, Bool.and_eq_true, Bool.or_eq_true, Bool.or_eq_false_iff, beq_iff_eq, beq_eq_false_iff_ne, ne_eq, Int.not_lt, Int.not_le, Decidable.not_not] at hg44
              refine g_step_no (j := 12) (t := 44) rfl rfl rfl rfl rfl rfl rfl ?_
              refine g_step_no (j := 12) (t := 44) rfl rfl rfl rfl rfl rfl rfl ?_
              refine g_step_no (j := 12) (t := 44) rfl rfl rfl rfl rfl rfl rfl ?_
              refine g_step_no (j := 12) (t := 44) rfl rfl rfl rfl rfl rfl rfl ?_
              refine g_step_no (j := 12) (t := 44) rfl rfl rfl rfl rfl rfl rfl ?_
              refine g_step_yes (j := 3) (t := 35) rfl rfl rfl rfl (s_val (v_pick_f rfl rfl) rfl rfl ?_)
              refine g_step rfl (s_val (v_pick_f rfl rfl) rfl rfl ?_)
              refine g_step rfl (s_val (v_assign rfl) rfl rfl ?_)
              refine g_nil ?_
              refine g_next hK11 ?_
              refine g_ret ?_
              refine g_end1 (.inl rfl) Try.results51 (.tmp rfl) [] (ASub.refl _) (AHeap.sub_refl _) (fun p hp => by cases hp) ⟨rfl, ?_⟩
              first | (rw [mlives_eq]; first | exact congrArg AV.bool (decide_eq_true (by unfold LivesP; omega)).symm | exact congrArg AV.bool (decide_eq_false (by unfold LivesP; omega)).symm | exact congrArg AV.bool (decide_eq_decide.2 (by unfold LivesP; omega)); done) | (rw [mlives_eq]; first | exact congrArg AV.bool (decide_eq_true (by unfold LivesP; omega)).symm | exact congrArg AV.bool (decide_eq_false (by unfold LivesP; omega)).symm | exact congrArg AV.bool (decide_eq_decide.2 (by unfold LivesP; omega)); rfl)
          · try simp only [decide_eq_true_eq, decide_eq_false_iff_not, Bool.not_eq_true', Bool.not_eq_false', Bool.not_eq_eq_eq_not, Bool.not_true, Bool.not_false, Bool.and_eq_true, Bool.or_eq_true, Bool.or_eq_false_iff, beq_iff_eq, beq_eq_false_iff_ne, ne_eq, Int.not_lt, Int.not_le, Decidable.not_not] at hg39
            refine g_step_no (j := 7) (t := 39) rfl rfl rfl rfl rfl rfl rfl ?_
            refine g_step_no (j := 7) (t := 39) rfl rfl rfl rfl rfl rfl rfl ?_
            refine g_step_no (j := 7) (t := 39) rfl rfl rfl rfl rfl rfl rfl ?_
            refine g_step_yes (j := 3) (t := 35) rfl rfl rfl rfl (s_val (v_pick_f rfl rfl) rfl rfl ?_)
            refine g_step_yes (j := 3) (t := 35) rfl rfl rfl rfl (s_val (v_move rfl) rfl rfl ?_)
            refine g_step_no (j := 12) (t := 44) rfl rfl rfl rfl rfl rfl rfl ?_
            refine g_step_no (j := 12) (t := 44) rfl rfl rfl rfl rfl rfl rfl ?_
            refine g_step_no (j := 12) (t := 44) rfl rfl rfl rfl rfl rfl rfl ?_
            refine g_step_no (j := 12) (t := 44) rfl rfl rfl rfl rfl rfl rfl ?_
            refine g_step_no (j := 12) (t := 44) rfl rfl rfl rfl rfl rfl rfl ?_
            refine g_step_yes (j := 3) (t := 35) rfl rfl rfl rfl (s_val (v_pick_f rfl rfl) rfl rfl ?_)
            refine g_step rfl (s_val (v_pick_f rfl rfl) rfl rfl ?_)
            refine g_step rfl (s_val (v_assign rfl) rfl rfl ?_)
            refine g_nil ?_
            refine g_next hK11 ?_
            refine g_ret ?_
            refine g_end1 (.inl rfl) Try.results51 (.tmp rfl) [] (ASub.refl _) (AHeap.sub_refl _) (fun p hp => by cases hp) ⟨rfl, ?_⟩
            first | (rw [mlives_eq]; first | exact congrArg AV.bool (decide_eq_true (by unfold LivesP; omega)).symm | exact congrArg AV.bool (decide_eq_false (by unfold LivesP; omega)).symm | exact congrArg AV.bool (decide_eq_decide.2 (by unfold LivesP; omega)); done) | (rw [mlives_eq]; first | exact congrArg AV.bool (decide_eq_true (by unfold LivesP; omega)).symm | exact congrArg AV.bool (decide_eq_false (by unfold LivesP; omega)).symm | exact congrArg AV.bool (decide_eq_decide.2 (by unfold LivesP; omega)); rfl)

theorem mvalid_ok (m : Mg) (G : AHeap) (hl : m.recs.length ≤ 100000) (hs : ∀ x ∈ m.recs, Small x.bag) : PCalls Try.prog 15 [encM m] G (fun r => r = .bool (mvalid m)) := by
  refine LCalls.intro 79 fi15 rfl Try.ntmps15 rfl (fun _ h => h.elim) (fun H hH w0 hw0 => ?_)
  refine g_seq (fun K0 hK0 => ?_)
  refine g_region ?_
  refine g_step rfl (s_box rfl rfl rfl rfl ?_)
  refine g_step rfl (s_val (v_assign rfl) rfl rfl ?_)
  refine g_nil ?_
  refine g_next hK0 ?_
  refine g_seq (fun K1 hK1 => ?_)
  refine g_seq (fun K2 hK2 => ?_)
  refine g_region ?_
  refine g_step rfl (s_fieldAddr ty30 fo30_0 ty3 rfl rfl ?_)
  refine g_step rfl (s_val (v_loadl ty3 rfl rfl rfl rfl) rfl rfl ?_)
  refine g_step rfl (s_callp rfl rfl rfl (of_ok m.kind _) ?_)
  rintro _ rfl
  refine g_step rfl (s_val (v_field ty69 fo69_0 ty9 rfl rfl rfl) rfl rfl ?_)
  refine g_step rfl (s_val (v_seq rfl rfl) rfl rfl ?_)
  refine g_step rfl (s_val (v_move rfl) rfl rfl ?_)
  refine g_split 10 rfl (fun hg10 => ?_) (fun hg10 => ?_)
  · try simp only [decide_eq_true_eq, decide_eq_false_iff_not, Bool.not_eq_true', Bool.not_eq_false', Bool.not_eq_eq_eq_not, Bool.not_true, Bool.not_false, Bool.and_eq_true, Bool.or_eq_true, Bool.or_eq_false_iff, beq_iff_eq, beq_eq_false_iff_ne, ne_eq, Int.not_lt, Int.not_le, Decidable.not_not] at hg10
    have hk := kName_out hg10
    refine g_step_no (j := 5) (t := 10) rfl rfl rfl rfl rfl rfl rfl ?_
    refine g_step_no (j := 5) (t := 10) rfl rfl rfl rfl rfl rfl rfl ?_
    refine g_step_no (j := 5) (t := 10) rfl rfl rfl rfl rfl rfl rfl ?_
    refine g_step rfl (s_val (v_pick_t rfl rfl) rfl rfl ?_)
    refine g_step rfl (s_val (v_move rfl) rfl rfl ?_)
    refine g_step_no (j := 10) (t := 15) rfl rfl rfl rfl rfl rfl rfl ?_
    refine g_step_no (j := 10) (t := 15) rfl rfl rfl rfl rfl rfl rfl ?_
    refine g_step_no (j := 10) (t := 15) rfl rfl rfl rfl rfl rfl rfl ?_
    refine g_step rfl (s_val (v_pick_t rfl rfl) rfl rfl ?_)
    refine g_step rfl (s_val (v_move rfl) rfl rfl ?_)
    refine g_step_no (j := 15) (t := 20) rfl rfl rfl rfl rfl rfl rfl ?_
    refine g_step_no (j := 15) (t := 20) rfl rfl rfl rfl rfl rfl rfl ?_
    refine g_step_no (j := 15) (t := 20) rfl rfl rfl rfl rfl rfl rfl ?_
    refine g_step rfl (s_val (v_pick_t rfl rfl) rfl rfl ?_)
    refine g_step rfl (s_val (v_move rfl) rfl rfl ?_)
    refine g_step_no (j := 20) (t := 25) rfl rfl rfl rfl rfl rfl rfl ?_
    refine g_step_no (j := 20) (t := 25) rfl rfl rfl rfl rfl rfl rfl ?_
    refine g_step_no (j := 20) (t := 25) rfl rfl rfl rfl rfl rfl rfl ?_
    refine g_step rfl (s_val (v_pick_t rfl rfl) rfl rfl ?_)
    refine g_step rfl (s_val (v_move rfl) rfl rfl ?_)
    refine g_step_no (j := 25) (t := 30) rfl rfl rfl rfl rfl rfl rfl ?_
    refine g_step_no (j := 25) (t := 30) rfl rfl rfl rfl rfl rfl rfl ?_
    refine g_step_no (j := 25) (t := 30) rfl rfl rfl rfl rfl rfl rfl ?_
    refine g_step_no (j := 25) (t := 30) rfl rfl rfl rfl rfl rfl rfl ?_
    refine g_step rfl (s_val (v_pick_t rfl rfl) rfl rfl ?_)
    refine g_nil ?_
    refine g_next hK2 ?_
    first | refine g_keep [35] [1] [1] (keep_cons rfl keep_nil) (lkeep_cons rfl lkeep_nil) (keep_cons rfl keep_nil) rfl ?_ | refine g_keep [35] [1] [1] rfl rfl rfl rfl ?_
    refine g_cond rfl (fun _ => ?_) (fun h => by cases h)
    refine g_seq (fun K3 hK3 => ?_)
    refine g_region ?_
    refine g_step rfl (s_val (v_assign rfl) rfl rfl ?_)
    refine g_nil ?_
    refine g_next hK3 ?_
    refine g_ret ?_
    refine g_then_ret ?_
    refine g_end1 (.inl rfl) Try.results15 (.tmp rfl) [] (ASub.refl _) (AHeap.sub_refl _) (fun p hp => by cases hp) ⟨rfl, ?_⟩
    first | (rw [mvalid_eq]; first | (rw [show spValid m.sp = false by assumption]; rfl) | (rw [decide_eq_false (p := ValidP m) (by unfold ValidP; (try unfold LivesP at *); omega), Bool.false_and, Bool.and_false]; rfl); done) | (rw [mvalid_eq]; first | (rw [show spValid m.sp = false by assumption]; rfl) | (rw [decide_eq_false (p := ValidP m) (by unfold ValidP; (try unfold LivesP at *); omega), Bool.false_and, Bool.and_false]; rfl); rfl)
  · try simp only [decide_eq_true_eq, decide_eq_false_iff_not, Bool.not_eq_true', Bool.not_eq_false', Bool.not_eq_eq_eq_not, Bool.not_true, Bool.not_false, Bool.and_eq_true, Bool.or_eq_true, Bool.or_eq_false_iff, beq_iff_eq, beq_eq_false_iff_ne, ne_eq, Int.not_lt, Int.not_le, Decidable.not_not] at hg10
    have hk := kName_in hg10
    refine g_step_yes (j := 5) (t := 10) rfl rfl rfl rfl (s_fieldAddr ty30 fo30_1 ty3 rfl rfl ?_)
    refine g_step_yes (j := 5) (t := 10) rfl rfl rfl rfl (s_val (v_loadl ty3 rfl rfl rfl rfl) rfl rfl ?_)
    refine g_step_yes (j := 5) (t := 10) rfl rfl rfl rfl (s_val (v_lss rfl rfl) rfl rfl ?_)
    refine g_step rfl (s_val (v_pick_f rfl rfl) rfl rfl ?_)
    refine g_step rfl (s_val (v_move rfl) rfl rfl ?_)
    refine g_split 15 rfl (fun hg15 => ?_) (fun hg15 => ?_)
    · try simp only [decide_eq_true_eq, decide_eq_false_iff_not, Bool.not_eq_true', Bool.not_eq_false', Bool.not_eq_eq_eq_not, Bool.not_true, Bool.not_false, Bool.and_eq_true, Bool.or_eq_true, Bool.or_eq_false_iff, beq_iff_eq, beq_eq_false_iff_ne, ne_eq, Int.not_lt, Int.not_le, Decidable.not_not] at hg15
      refine g_step_no (j := 10) (t := 15) rfl rfl rfl rfl rfl rfl rfl ?_
      refine g_step_no (j := 10) (t := 15) rfl rfl rfl rfl rfl rfl rfl ?_
      refine g_step_no (j := 10) (t := 15) rfl rfl rfl rfl rfl rfl rfl ?_
      refine g_step rfl (s_val (v_pick_t rfl rfl) rfl rfl ?_)
      refine g_step rfl (s_val (v_move rfl) rfl rfl ?_)
      refine g_step_no (j := 15) (t := 20) rfl rfl rfl rfl rfl rfl rfl ?_
      refine g_step_no (j := 15) (t := 20) rfl rfl rfl rfl rfl rfl rfl ?_
      refine g_step_no (j := 15) (t := 20) rfl rfl rfl rfl rfl rfl rfl ?_
      refine g_step rfl (s_val (v_pick_t rfl rfl) rfl rfl ?_)
      refine g_step rfl (s_val (v_move rfl) rfl rfl ?_)
      refine g_step_no (j := 20) (t := 25) rfl rfl rfl rfl rfl rfl rfl ?_
      refine g_step_no (j := 20) (t := 25) rfl rfl rfl rfl rfl rfl rfl ?_
      refine g_step_no (j := 20) (t := 25) rfl rfl rfl rfl rfl rfl rfl ?_
      refine g_step rfl (s_val (v_pick_t rfl rfl) rfl rfl ?_)
      refine g_step rfl (s_val (v_move rfl) rfl rfl ?_)
      refine g_step_no (j := 25) (t := 30) rfl rfl rfl rfl rfl rfl rfl ?_
      refine g_step_no (j := 25) (t := 30) rfl rfl rfl rfl rfl rfl rfl ?_
      refine g_step_no (j := 25) (t := 30) rfl rfl rfl rfl rfl rfl rfl ?_
      refine g_step_no (j := 25) (t := 30) rfl rfl rfl rfl rfl rfl rfl ?_
      refine g_step rfl (s_val (v_pick_t rfl rfl) rfl rfl ?_)
      refine g_nil ?_
      refine g_next hK2 ?_
      first | refine g_keep [35] [1] [1] (keep_cons rfl keep_nil) (lkeep_cons rfl lkeep_nil) (keep_cons rfl keep_nil) rfl ?_ | refine g_keep [35] [1] [1] rfl rfl rfl rfl ?_
      refine g_cond rfl (fun _ => ?_) (fun h => by cases h)
      refine g_seq (fun K4 hK4 => ?_)
      refine g_region ?_
      refine g_step rfl (s_val (v_assign rfl) rfl rfl ?_)
      refine g_nil ?_
      refine g_next hK4 ?_
      refine g_ret ?_
      refine g_then_ret ?_
      refine g_end1 (.inl rfl) Try.results15 (.tmp rfl) [] (ASub.refl _) (AHeap.sub_refl _) (fun p hp => by cases hp) ⟨rfl, ?_⟩
      first | (rw [mvalid_eq]; first | (rw [show spValid m.sp = false by assumption]; rfl) | (rw [decide_eq_false (p := ValidP m) (by unfold ValidP; (try unfold LivesP at *); omega), Bool.false_and, Bool.and_false]; rfl); done) | (rw [mvalid_eq]; first | (rw [show spValid m.sp = false by assumption]; rfl) | (rw [decide_eq_false (p := ValidP m) (by unfold ValidP; (try unfold LivesP at *); omega), Bool.false_and, Bool.and_false]; rfl); rfl)
    · try simp only [decide_eq_true_eq, decide_eq_false_iff_not, Bool.not_eq_true', Bool.not_eq_false', Bool.not_eq_eq_eq_not, Bool.not_true, Bool.not_false, Bool.and_eq_true, Bool.or_eq_true, Bool.or_eq_false_iff, beq_iff_eq, beq_eq_false_iff_ne, ne_eq, Int.not_lt, Int.not_le, Decidable.not_not] at hg15
      refine g_step_yes (j := 10) (t := 15) rfl rfl rfl rfl (s_fieldAddr ty30 fo30_1 ty3 rfl rfl ?_)
      refine g_step_yes (j := 10) (t := 15) rfl rfl rfl rfl (s_val (v_loadl ty3 rfl rfl rfl rfl) rfl rfl ?_)
      refine g_step_yes (j := 10) (t := 15) rfl rfl rfl rfl (s_val (v_gtr rfl rfl) rfl rfl ?_)
      refine g_step rfl (s_val (v_pick_f rfl rfl) rfl rfl ?_)
      refine g_step rfl (s_val (v_move rfl) rfl rfl ?_)
      refine g_split 20 rfl (fun hg20 => ?_) (fun hg20 => ?_)
      · try simp only [decide_eq_true_eq, decide_eq_false_iff_not, Bool.not_eq_true', Bool.not_eq_false', Bool.not_eq_eq_eq_not, Bool.not_true, Bool.not_false, Bool.and_eq_true, Bool.or_eq_true, Bool.or_eq_false_iff, beq_iff_eq, beq_eq_false_iff_ne, ne_eq, Int.not_lt, Int.not_le, Decidable.not_not] at hg20
        refine g_step_no (j := 15) (t := 20) rfl rfl rfl rfl rfl rfl rfl ?_
        refine g_step_no (j := 15) (t := 20) rfl rfl rfl rfl rfl rfl rfl ?_
        refine g_step_no (j := 15) (t := 20) rfl rfl rfl rfl rfl rfl rfl ?_
        refine g_step rfl (s_val (v_pick_t rfl rfl) rfl rfl ?_)
        refine g_step rfl (s_val (v_move rfl) rfl rfl ?_)
        refine g_step_no (j := 20) (t := 25) rfl rfl rfl rfl rfl rfl rfl ?_
        refine g_step_no (j := 20) (t := 25) rfl rfl rfl rfl rfl rfl rfl ?_
        refine g_step_no (j := 20) (t := 25) rfl rfl rfl rfl rfl rfl rfl ?_
        refine g_step rfl (s_val (v_pick_t rfl rfl) rfl rfl ?_)
        refine g_step rfl (s_val (v_move rfl) rfl rfl ?_)
        refine g_step_no (j := 25) (t := 30) rfl rfl rfl rfl rfl rfl rfl ?_
        refine g_step_no (j := 25) (t := 30) rfl rfl rfl rfl rfl rfl rfl ?_
        refine g_step_no (j := 25) (t := 30) rfl rfl rfl rfl rfl rfl rfl ?_
        refine g_step_no (j := 25) (t := 30) rfl rfl rfl rfl rfl rfl rfl ?_
        refine g_step rfl (s_val (v_pick_t rfl rfl) rfl rfl ?_)
        refine g_nil ?_
        refine g_next hK2 ?_
        first | refine g_keep [35] [1] [1] (keep_cons rfl keep_nil) (lkeep_cons rfl lkeep_nil) (keep_cons rfl keep_nil) rfl ?_ | refine g_keep [35] [1] [1] rfl rfl rfl rfl ?_
        refine g_cond rfl (fun _ => ?_) (fun h => by cases h)
        refine g_seq (fun K5 hK5 => ?_)
        refine g_region ?_
        refine g_step rfl (s_val (v_assign rfl) rfl rfl ?_)
        refine g_nil ?_
        refine g_next hK5 ?_
        refine g_ret ?_
        refine g_then_ret ?_
        refine g_end1 (.inl rfl) Try.results15 (.tmp rfl) [] (ASub.refl _) (AHeap.sub_refl _) (fun p hp => by cases hp) ⟨rfl, ?_⟩
        first | (rw [mvalid_eq]; first | (rw [show spValid m.sp = false by assumption]; rfl) | (rw [decide_eq_false (p := ValidP m) (by unfold ValidP; (try unfold LivesP at *); omega), Bool.false_and, Bool.and_false]; rfl); done) | (rw [mvalid_eq]; first | (rw [show spValid m.sp = false by assumption]; rfl) | (rw [decide_eq_false (p := ValidP m) (by unfold ValidP; (try unfold LivesP at *); omega), Bool.false_and, Bool.and_false]; rfl); rfl)
      · try simp only [decide_eq_true_eq, decide_eq_false_iff_not, Bool.not_eq_true', Bool.not_eq_false', Bool.not_eq_eq_eq_not, Bool.not_true, Bool.not_false, Bool.and_eq_true, Bool.or_eq_true, Bool.or_eq_false_iff, beq_iff_eq, beq_eq_false_iff_ne, ne_eq, Int.not_lt, Int.not_le, Decidable.not_not] at hg20
        refine g_step_yes (j := 15) (t := 20) rfl rfl rfl rfl (s_fieldAddr ty30 fo30_2 ty3 rfl rfl ?_)
        refine g_step_yes (j := 15) (t := 20) rfl rfl rfl rfl (s_val (v_loadl ty3 rfl rfl rfl rfl) rfl rfl ?_)
        refine g_step_yes (j := 15) (t := 20) rfl rfl rfl rfl (s_val (v_lss rfl rfl) rfl rfl ?_)
        refine g_step rfl (s_val (v_pick_f rfl rfl) rfl rfl ?_)
        refine g_step rfl (s_val (v_move rfl) rfl rfl ?_)
        refine g_split 25 rfl (fun hg25 => ?_) (fun hg25 => ?_)
        · try simp only [decide_eq_true_eq, decide_eq_false_iff_not, Bool.not_eq_true', Bool.not_eq_false', Bool.not_eq_eq_eq_not, Bool.not_true, Bool.not_false, Bool.and_eq_true, Bool.or_eq_true, Bool.or_eq_false_iff, beq_iff_eq, beq_eq_false_iff_ne, ne_eq, Int.not_lt, Int.not_le, Decidable.not_not] at hg25
          refine g_step_no (j := 20) (t := 25) rfl rfl rfl rfl rfl rfl rfl ?_
          refine g_step_no (j := 20) (t := 25) rfl rfl rfl rfl rfl rfl rfl ?_
          refine g_step_no (j := 20) (t := 25) rfl rfl rfl rfl rfl rfl rfl ?_
          refine g_step rfl (s_val (v_pick_t rfl rfl) rfl rfl ?_)
          refine g_step rfl (s_val (v_move rfl) rfl rfl ?_)
          refine g_step_no (j := 25) (t := 30) rfl rfl rfl rfl rfl rfl rfl ?_
          refine g_step_no (j := 25) (t := 30) rfl rfl rfl rfl rfl rfl rfl ?_
          refine g_step_no (j := 25) (t := 30) rfl rfl rfl rfl rfl rfl rfl ?_
          refine g_step_no (j := 25) (t := 30) rfl rfl rfl rfl rfl rfl rfl ?_
          refine g_step rfl (s_val (v_pick_t rfl rfl) rfl rfl ?_)
          refine g_nil ?_
          refine g_next hK2 ?_
          first | refine g_keep [35] [1] [1] (keep_cons rfl keep_nil) (lkeep_cons rfl lkeep_nil) (keep_cons rfl keep_nil) rfl ?_ | refine g_keep [35] [1] [1] rfl rfl rfl rfl ?_
          refine g_cond rfl (fun _ => ?_) (fun h => by cases h)
          refine g_seq (fun K6 hK6 => ?_)
          refine g_region ?_
          refine g_step rfl (s_val (v_assign rfl) rfl rfl ?_)
          refine g_nil ?_
          refine g_next hK6 ?_
          refine g_ret ?_
          refine g_then_ret ?_
          refine g_end1 (.inl rfl) Try.results15 (.tmp rfl) [] (ASub.refl _) (AHeap.sub_refl _) (fun p hp => by cases hp) ⟨rfl, ?_⟩
          first | (rw [mvalid_eq]; first | (rw [show spValid m.sp = false by assumption]; rfl) | (rw [decide_eq_false (p := ValidP m) (by unfold ValidP; (try unfold LivesP at *); omega), Bool.false_and, Bool.and_false]; rfl); done) | (rw [mvalid_eq]; first | (rw [show spValid m.sp = false by assumption]; rfl) | (rw [decide_eq_false (p := ValidP m) (by unfold ValidP; (try unfold LivesP at *); omega), Bool.false_and, Bool.and_false]; rfl); rfl)
        · try simp only [decide_eq_true_eq, decide_eq_false_iff_not, Bool.not_eq_true', Bool.not_eq_false', Bool.not_eq_eq_eq_not, Bool.not_true, Bool.not_false, Bool.and_eq_true, Bool.or_eq_true, Bool.or_eq_false_iff, beq_iff_eq, beq_eq_false_iff_ne, ne_eq, Int.not_lt, Int.not_le, Decidable.not_not] at hg25
          refine g_step_yes (j := 20) (t := 25) rfl rfl rfl rfl (s_fieldAddr ty30 fo30_2 ty3 rfl rfl ?_)
          refine g_step_yes (j := 20) (t := 25) rfl rfl rfl rfl (s_val (v_loadl ty3 rfl rfl rfl rfl) rfl rfl ?_)
          refine g_step_yes (j := 20) (t := 25) rfl rfl rfl rfl (s_val (v_gtr rfl rfl) rfl rfl ?_)
          refine g_step rfl (s_val (v_pick_f rfl rfl) rfl rfl ?_)
          refine g_step rfl (s_val (v_move rfl) rfl rfl ?_)
          refine g_split 30 rfl (fun hg30 => ?_) (fun hg30 => ?_)
          · try simp only [decide_eq_true_eq, decide_eq_false_iff_not, Bool.not_eq_true', Bool.not_eq_false', Bool.not_eq_eq_eq_not, Bool.not_true, Bool.not_false, Bool.and_eq_true, Bool.or_eq_true, Bool.or_eq_false_iff, beq_iff_eq, beq_eq_false_iff_ne, ne_eq, Int.not_lt, Int.not_le, Decidable.not_not] at hg30
            refine g_step_no (j := 25) (t := 30) rfl rfl rfl rfl rfl rfl rfl ?_
            refine g_step_no (j := 25) (t := 30) rfl rfl rfl rfl rfl rfl rfl ?_
            refine g_step_no (j := 25) (t := 30) rfl rfl rfl rfl rfl rfl rfl ?_
            refine g_step_no (j := 25) (t := 30) rfl rfl rfl rfl rfl rfl rfl ?_
            refine g_step rfl (s_val (v_pick_t rfl rfl) rfl rfl ?_)
            refine g_nil ?_
            refine g_next hK2 ?_
            first | refine g_keep [35] [1] [1] (keep_cons rfl keep_nil) (lkeep_cons rfl lkeep_nil) (keep_cons rfl keep_nil) rfl ?_ | refine g_keep [35] [1] [1] rfl rfl rfl rfl ?_
            refine g_cond rfl (fun _ => ?_) (fun h => by cases h)
            refine g_seq (fun K7 hK7 => ?_)
            refine g_region ?_
            refine g_step rfl (s_val (v_assign rfl) rfl rfl ?_)
            refine g_nil ?_
            refine g_next hK7 ?_
            refine g_ret ?_
            refine g_then_ret ?_
            refine g_end1 (.inl rfl) Try.results15 (.tmp rfl) [] (ASub.refl _) (AHeap.sub_refl _) (fun p hp => by cases hp) ⟨rfl, ?_⟩
            first | (rw [mvalid_eq]; first | (rw [show spValid m.sp = false by assumption]; rfl) | (rw [decide_eq_false (p := ValidP m) (by unfold ValidP; (try unfold LivesP at *); omega), Bool.false_and, Bool.and_false]; rfl); done) | (rw [mvalid_eq]; first | (rw [show spValid m.sp = false by assumption]; rfl) | (rw [decide_eq_false (p := ValidP m) (by unfold ValidP; (try unfold LivesP at *); omega), Bool.false_and, Bool.and_false]; rfl); rfl)
          · try simp only [decide_eq_true_eq, decide_eq_false_iff_not, Bool.not_eq_true', Bool.not_eq_false', Bool.not_eq_eq_eq_not, Bool.not_true, Bool.not_false, Bool.and_eq_true, Bool.or_eq_true, Bool.or_eq_false_iff, beq_iff_eq, beq_eq_false_iff_ne, ne_eq, Int.not_lt, Int.not_le, Decidable.not_not] at hg30
            refine g_step_yes (j := 25) (t := 30) rfl rfl rfl rfl (s_fieldAddr ty30 fo30_3 ty25 rfl rfl ?_)
            refine g_step_yes (j := 25) (t := 30) rfl rfl rfl rfl (s_val (v_loadl_part (cs := [_, _]) ty25 rfl rfl rfl rfl rfl rfl) rfl rfl ?_)
            refine g_step_yes (j := 25) (t := 30) rfl rfl rfl rfl (s_callp rfl rfl rfl (spValid_ok m.sp _) ?_)
            rintro _ rfl
            refine g_step_yes (j := 25) (t := 30) rfl rfl rfl rfl (s_val (v_not rfl) rfl rfl ?_)
            refine g_step rfl (s_val (v_pick_f rfl rfl) rfl rfl ?_)
            refine g_nil ?_
            refine g_next hK2 ?_
            first | refine g_keep [35] [1] [1] (keep_cons rfl keep_nil) (lkeep_cons rfl lkeep_nil) (keep_cons rfl keep_nil) rfl ?_ | refine g_keep [35] [1] [1] rfl rfl rfl rfl ?_
            refine g_cond rfl (fun hc35 => ?_) (fun hc35 => ?_)
            · try simp only [decide_eq_true_eq, decide_eq_false_iff_not, Bool.not_eq_true', Bool.not_eq_false', Bool.not_eq_eq_eq_not, Bool.not_true, Bool.not_false, Bool.and_eq_true, Bool.or_eq_true, Bool.or_eq_false_iff, beq_iff_eq, beq_eq_false_iff_ne, ne_eq, Int.not_lt, Int.not_le, Decidable.not_not] at hc35
              refine g_seq (fun K8 hK8 => ?_)
              refine g_region ?_
              refine g_step rfl (s_val (v_assign rfl) rfl rfl ?_)
              refine g_nil ?_
              refine g_next hK8 ?_
              refine g_ret ?_
              refine g_then_ret ?_
              refine g_end1 (.inl rfl) Try.results15 (.tmp rfl) [] (ASub.refl _) (AHeap.sub_refl _) (fun p hp => by cases hp) ⟨rfl, ?_⟩
              first | (rw [mvalid_eq]; first | (rw [show spValid m.sp = false by assumption]; rfl) | (rw [decide_eq_false (p := ValidP m) (by unfold ValidP; (try unfold LivesP at *); omega), Bool.false_and, Bool.and_false]; rfl); done) | (rw [mvalid_eq]; first | (rw [show spValid m.sp = false by assumption]; rfl) | (rw [decide_eq_false (p := ValidP m) (by unfold ValidP; (try unfold LivesP at *); omega), Bool.false_and, Bool.and_false]; rfl); rfl)
            · try simp only [decide_eq_true_eq, decide_eq_false_iff_not, Bool.not_eq_true', Bool.not_eq_false', Bool.not_eq_eq_eq_not, Bool.not_true, Bool.not_false, Bool.and_eq_true, Bool.or_eq_true, Bool.or_eq_false_iff, beq_iff_eq, beq_eq_false_iff_ne, ne_eq, Int.not_lt, Int.not_le, Decidable.not_not] at hc35
              refine g_skip ?_
              refine g_next hK1 ?_
              refine g_seq (fun K9 hK9 => ?_)
              refine g_region ?_
              refine g_step rfl (s_val (v_assign rfl) rfl rfl ?_)
              refine g_step rfl (s_val (v_assign rfl) rfl rfl ?_)
              refine g_nil ?_
              refine g_next hK9 ?_
              refine g_seq (fun K10 hK10 => ?_)
              refine g_seq (fun K11 hK11 => ?_)
              refine g_region ?_
              refine g_step rfl (s_fieldAddr ty30 fo30_0 ty3 rfl rfl ?_)
              refine g_step rfl (s_val (v_loadl ty3 rfl rfl rfl rfl) rfl rfl ?_)
              refine g_step rfl (s_val (v_eql rfl rfl) rfl rfl ?_)
              refine g_nil ?_
              refine g_next hK11 ?_
              refine g_cond rfl (fun hc38 => ?_) (fun hc38 => ?_)
              · try simp only [decide_eq_true_eq, decide_eq_false_iff_not, Bool.not_eq_true', Bool.not_eq_false', Bool.not_eq_eq_eq_not, Bool.not_true, Bool.not_false, Bool.and_eq_true, Bool.or_eq_true, Bool.or_eq_false_iff, beq_iff_eq, beq_eq_false_iff_ne, ne_eq, Int.not_lt, Int.not_le, Decidable.not_not] at hc38
                refine g_region ?_
                refine g_step rfl (s_val (v_assign rfl) rfl rfl ?_)
                refine g_step rfl (s_val (v_assign rfl) rfl rfl ?_)
                refine g_nil ?_
                refine g_next hK10 ?_
                refine g_seq (fun K12 hK12 => ?_)
                refine g_seq (fun K13 hK13 => ?_)
                refine g_draw (n := 23) (fun j => !([] : List Nat).contains j) rfl rfl ?_
                refine m_takel 0 rfl rfl (by kernel_rfl) (by kernel_rfl) (by kernel_rfl) (fun _ _ _ _ h => h) (vl_fieldAddr ty30 fo30_0 ty3 rfl) rfl rfl ?_
                refine m_take 1 true rfl rfl (by kernel_rfl) (by kernel_rfl) (by kernel_rfl) (fun _ _ _ _ h => h) (v_loadl ty3 rfl rfl rfl rfl) rfl rfl ?_
                refine m_takel 3 rfl rfl (by kernel_rfl) (by kernel_rfl) (by kernel_rfl) (fun _ _ _ _ h => h) (vl_fieldAddr ty30 fo30_4 ty3 rfl) rfl rfl ?_
                refine m_take 4 true rfl rfl (by kernel_rfl) (by kernel_rfl) (by kernel_rfl) (fun _ _ _ _ h => h) (v_loadl ty3 rfl rfl rfl rfl) rfl rfl ?_
                refine m_one 2 (by kernel_rfl) rfl rfl ?_
                refine sm_callp rfl rfl rfl (has_ok m.kind 0 _) ?_
                rintro _ rfl
                rw [has10_0]
                refine m_one 5 (by kernel_rfl) rfl rfl ?_
                refine sm_callp rfl rfl rfl (within_ok (decide (m.kind = 1 ∨ m.kind = 2 ∨ m.kind = 4 ∨ m.kind = 5 ∨ m.kind = 6)) m.seq 0 65535 _) ?_
                rintro _ rfl
                rw [mwithin_eq]
                refine m_take 6 false rfl rfl (by kernel_rfl) (by kernel_rfl) (by kernel_rfl) (fun _ _ _ _ h => h) (v_not rfl) rfl rfl ?_
                refine m_take 7 false rfl rfl (by kernel_rfl) (by kernel_rfl) (by kernel_rfl) (fun _ _ _ _ h => h) (v_move rfl) rfl rfl ?_
                refine m_split 46 rfl (fun hg46 => ?_) (fun hg46 => ?_)
                · try simp only [decide_eq_true_eq, decide_eq_false_iff_not, Bool.not_eq_true', Bool.not_eq_false', Bool.not_eq_eq_eq_not, Bool.not_true, Bool.not_false, Bool.and_eq_true, Bool.or_eq_true, Bool.or_eq_false_iff, beq_iff_eq, beq_eq_false_iff_ne, ne_eq, Int.not_lt, Int.not_le, Decidable.not_not] at hg46
                  refine m_take_no (j := 7) (t := 46) 8 rfl rfl rfl rfl rfl rfl (by kernel_rfl) (by kernel_rfl) (by kernel_rfl) (fun _ _ _ _ h => h) rfl rfl ?_
                  refine m_take_no (j := 7) (t := 46) 9 rfl rfl rfl rfl rfl rfl (by kernel_rfl) (by kernel_rfl) (by kernel_rfl) (fun _ _ _ _ h => h) rfl rfl ?_
                  refine m_take_no (j := 7) (t := 46) 10 rfl rfl rfl rfl rfl rfl (by kernel_rfl) (by kernel_rfl) (by kernel_rfl) (fun _ _ _ _ h => h) rfl rfl ?_
                  refine m_take_no (j := 7) (t := 46) 11 rfl rfl rfl rfl rfl rfl (by kernel_rfl) (by kernel_rfl) (by kernel_rfl) (fun _ _ _ _ h => h) rfl rfl ?_
                  refine m_take_no (j := 7) (t := 46) 12 rfl rfl rfl rfl rfl rfl (by kernel_rfl) (by kernel_rfl) (by kernel_rfl) (fun _ _ _ _ h => h) rfl rfl ?_
                  refine m_take_no (j := 7) (t := 46) 13 rfl rfl rfl rfl rfl rfl (by kernel_rfl) (by kernel_rfl) (by kernel_rfl) (fun _ _ _ _ h => h) rfl rfl ?_
                  refine m_take_no (j := 7) (t := 46) 14 rfl rfl rfl rfl rfl rfl (by kernel_rfl) (by kernel_rfl) (by kernel_rfl) (fun _ _ _ _ h => h) rfl rfl ?_
                  refine m_take_no (j := 7) (t := 46) 15 rfl rfl rfl rfl rfl rfl (by kernel_rfl) (by kernel_rfl) (by kernel_rfl) (fun _ _ _ _ h => h) rfl rfl ?_
                  refine m_take_no (j := 7) (t := 46) 16 rfl rfl rfl rfl rfl rfl (by kernel_rfl) (by kernel_rfl) (by kernel_rfl) (fun _ _ _ _ h => h) rfl rfl ?_
                  refine m_take 17 false rfl rfl (by kernel_rfl) (by kernel_rfl) (by kernel_rfl) (fun _ _ _ _ h => h) (v_pick_t rfl rfl) rfl rfl ?_
                  refine m_take 18 false rfl rfl (by kernel_rfl) (by kernel_rfl) (by kernel_rfl) (fun _ _ _ _ h => h) (v_move rfl) rfl rfl ?_
                  refine m_take_no (j := 18) (t := 57) 19 rfl rfl rfl rfl rfl rfl (by kernel_rfl) (by kernel_rfl) (by kernel_rfl) (fun _ _ _ _ h => h) rfl rfl ?_
                  refine m_take_no (j := 18) (t := 57) 20 rfl rfl rfl rfl rfl rfl (by kernel_rfl) (by kernel_rfl) (by kernel_rfl) (fun _ _ _ _ h => h) rfl rfl ?_
                  refine m_take_no (j := 18) (t := 57) 21 rfl rfl rfl rfl rfl rfl (by kernel_rfl) (by kernel_rfl) (by kernel_rfl) (fun _ _ _ _ h => h) rfl rfl ?_
                  refine m_take 22 false rfl rfl (by kernel_rfl) (by kernel_rfl) (by kernel_rfl) (fun _ _ _ _ h => h) (v_pick_t rfl rfl) rfl rfl ?_
                  refine m_done (by kernel_rfl) ?_
                  refine g_next hK13 ?_
                  first | refine g_keep [61] [1] [1] (keep_cons rfl keep_nil) (lkeep_cons rfl lkeep_nil) (keep_cons rfl keep_nil) rfl ?_ | refine g_keep [61] [1] [1] rfl rfl rfl rfl ?_
                  refine g_cond rfl (fun _ => ?_) (fun h => by cases h)
                  refine g_seq (fun K14 hK14 => ?_)
                  refine g_region ?_
                  refine g_step rfl (s_val (v_assign rfl) rfl rfl ?_)
                  refine g_nil ?_
                  refine g_next hK14 ?_
                  refine g_ret ?_
                  refine g_then_ret ?_
                  refine g_end1 (.inl rfl) Try.results15 (.tmp rfl) [] (ASub.refl _) (AHeap.sub_refl _) (fun p hp => by cases hp) ⟨rfl, ?_⟩
                  first | (rw [mvalid_eq]; first | (rw [show spValid m.sp = false by assumption]; rfl) | (rw [decide_eq_false (p := ValidP m) (by unfold ValidP; (try unfold LivesP at *); omega), Bool.false_and, Bool.and_false]; rfl); done) | (rw [mvalid_eq]; first | (rw [show spValid m.sp = false by assumption]; rfl) | (rw [decide_eq_false (p := ValidP m) (by unfold ValidP; (try unfold LivesP at *); omega), Bool.false_and, Bool.and_false]; rfl); rfl)
                · try simp only [decide_eq_true_eq, decide_eq_false_iff_not, Bool.not_eq_true', Bool.not_eq_false', Bool.not_eq_eq_eq_not, Bool.not_true, Bool.not_false, Bool.and_eq_true, Bool.or_eq_true, Bool.or_eq_false_iff, beq_iff_eq, beq_eq_false_iff_ne, ne_eq, Int.not_lt, Int.not_le, Decidable.not_not] at hg46
                  refine m_takel_yes (j := 7) (t := 46) 8 rfl rfl rfl rfl rfl (by kernel_rfl) (by kernel_rfl) (by kernel_rfl) (fun _ _ _ _ h => h) (vl_fieldAddr ty30 fo30_0 ty3 rfl) rfl rfl ?_
                  refine m_take_yes (j := 7) (t := 46) 9 true rfl rfl rfl rfl rfl (by kernel_rfl) (by kernel_rfl) (by kernel_rfl) (fun _ _ _ _ h => h) (v_loadl ty3 rfl rfl rfl rfl) rfl rfl ?_
                  refine m_takel_yes (j := 7) (t := 46) 11 rfl rfl rfl rfl rfl (by kernel_rfl) (by kernel_rfl) (by kernel_rfl) (fun _ _ _ _ h => h) (vl_fieldAddr ty30 fo30_5 ty3 rfl) rfl rfl ?_
                  refine m_take_yes (j := 7) (t := 46) 12 true rfl rfl rfl rfl rfl (by kernel_rfl) (by kernel_rfl) (by kernel_rfl) (fun _ _ _ _ h => h) (v_loadl ty3 rfl rfl rfl rfl) rfl rfl ?_
                  refine m_take_yes (j := 7) (t := 46) 13 false rfl rfl rfl rfl rfl (by kernel_rfl) (by kernel_rfl) (by kernel_rfl) (fun _ _ _ _ h => h) (v_move rfl) rfl rfl ?_
                  refine m_take_yes (j := 7) (t := 46) 14 false rfl rfl rfl rfl rfl (by kernel_rfl) (by kernel_rfl) (by kernel_rfl) (fun _ _ _ _ h => h) (v_move rfl) rfl rfl ?_
                  refine m_one_yes (j := 7) (t := 46) 10 (by kernel_rfl) rfl rfl rfl rfl rfl ?_
                  refine sm_callp rfl rfl rfl (has_ok m.kind 1 _) ?_
                  rintro _ rfl
                  rw [has10_1]
                  refine m_one_yes (j := 7) (t := 46) 15 (by kernel_rfl) rfl rfl rfl rfl rfl ?_
                  refine sm_callp rfl rfl rfl (within_ok (decide (m.kind = 3 ∨ m.kind = 6)) m.target _ _ _) ?_
                  rintro _ rfl
                  rw [mwithin_eq]
                  refine m_take_yes (j := 7) (t := 46) 16 false rfl rfl rfl rfl rfl (by kernel_rfl) (by kernel_rfl) (by kernel_rfl) (fun _ _ _ _ h => h) (v_not rfl) rfl rfl ?_
                  refine m_take 17 false rfl rfl (by kernel_rfl) (by kernel_rfl) (by kernel_rfl) (fun _ _ _ _ h => h) (v_pick_f rfl rfl) rfl rfl ?_
                  refine m_take 18 false rfl rfl (by kernel_rfl) (by kernel_rfl) (by kernel_rfl) (fun _ _ _ _ h => h) (v_move rfl) rfl rfl ?_
                  refine m_split 57 rfl (fun hg57 => ?_) (fun hg57 => ?_)
                  · try simp only [decide_eq_true_eq, decide_eq_false_iff_not, Bool.not_eq_true', Bool.not_eq_false', Bool.not_eq_eq_eq_not, Bool.not_true, Bool.not_false, Bool.and_eq_true, Bool.or_eq_true, Bool.or_eq_false_iff, beq_iff_eq, beq_eq_false_iff_ne, ne_eq, Int.not_lt, Int.not_le, Decidable.not_not] at hg57
                    refine m_take_no (j := 18) (t := 57) 19 rfl rfl rfl rfl rfl rfl (by kernel_rfl) (by kernel_rfl) (by kernel_rfl) (fun _ _ _ _ h => h) rfl rfl ?_
                    refine m_take_no (j := 18) (t := 57) 20 rfl rfl rfl rfl rfl rfl (by kernel_rfl) (by kernel_rfl) (by kernel_rfl) (fun _ _ _ _ h => h) rfl rfl ?_
                    refine m_take_no (j := 18) (t := 57) 21 rfl rfl rfl rfl rfl rfl (by kernel_rfl) (by kernel_rfl) (by kernel_rfl) (fun _ _ _ _ h => h) rfl rfl ?_
                    refine m_take 22 false rfl rfl (by kernel_rfl) (by kernel_rfl) (by kernel_rfl) (fun _ _ _ _ h => h) (v_pick_t rfl rfl) rfl rfl ?_
                    refine m_done (by kernel_rfl) ?_
                    refine g_next hK13 ?_
                    refine g_cond rfl (fun _ => ?_) (fun h => by cases h)
                    refine g_seq (fun K15 hK15 => ?_)
                    refine g_region ?_
                    refine g_step rfl (s_val (v_assign rfl) rfl rfl ?_)
                    refine g_nil ?_
                    refine g_next hK15 ?_
                    first | refine g_keep [2] [] [] (keep_cons rfl keep_nil) lkeep_nil keep_nil rfl ?_ | refine g_keep [2] [] [] rfl rfl rfl rfl ?_
                    refine g_ret ?_
                    refine g_then_ret ?_
                    refine g_end1 (.inl rfl) Try.results15 (.tmp rfl) [] (ASub.refl _) (AHeap.sub_refl _) (fun p hp => by cases hp) ⟨rfl, ?_⟩
                    first | (rw [mvalid_eq]; first | (rw [show spValid m.sp = false by assumption]; rfl) | (rw [decide_eq_false (p := ValidP m) (by unfold ValidP; (try unfold LivesP at *); omega), Bool.false_and, Bool.and_false]; rfl); done) | (rw [mvalid_eq]; first | (rw [show spValid m.sp = false by assumption]; rfl) | (rw [decide_eq_false (p := ValidP m) (by unfold ValidP; (try unfold LivesP at *); omega), Bool.false_and, Bool.and_false]; rfl); rfl)
                  · try simp only [decide_eq_true_eq, decide_eq_false_iff_not, Bool.not_eq_true', Bool.not_eq_false', Bool.not_eq_eq_eq_not, Bool.not_true, Bool.not_false, Bool.and_eq_true, Bool.or_eq_true, Bool.or_eq_false_iff, beq_iff_eq, beq_eq_false_iff_ne, ne_eq, Int.not_lt, Int.not_le, Decidable.not_not] at hg57
                    refine m_take_yes (j := 18) (t := 57) 19 true rfl rfl rfl rfl rfl (by kernel_rfl) (by kernel_rfl) (by kernel_rfl) (fun _ _ _ _ h => h) (by first | exact v_loadl_all ty30 rfl rfl rfl rfl rfl | exact v_loadl_part (cs := [_, _, _, _, _, _, _, _, _, _, _]) ty30 rfl rfl rfl rfl rfl rfl) rfl rfl ?_
                    refine m_one_yes (j := 18) (t := 57) 20 (by kernel_rfl) rfl rfl rfl rfl rfl ?_
                    refine sm_callp rfl rfl rfl (lives_ok m _) ?_
                    rintro _ rfl
                    rw [mlives_eq]
                    refine m_take_yes (j := 18) (t := 57) 21 false rfl rfl rfl rfl rfl (by kernel_rfl) (by kernel_rfl) (by kernel_rfl) (fun _ _ _ _ h => h) (v_not rfl) rfl rfl ?_
                    refine m_take 22 false rfl rfl (by kernel_rfl) (by kernel_rfl) (by kernel_rfl) (fun _ _ _ _ h => h) (v_pick_f rfl rfl) rfl rfl ?_
                    refine m_done (by kernel_rfl) ?_
                    refine g_next hK13 ?_
                    refine g_cond rfl (fun hc61 => ?_) (fun hc61 => ?_)
                    · try simp only [decide_eq_true_eq, decide_eq_false_iff_not, Bool.not_eq_true', Bool.not_eq_false', Bool.not_eq_eq_eq_not, Bool.not_true, Bool.not_false, Bool.and_eq_true, Bool.or_eq_true, Bool.or_eq_false_iff, beq_iff_eq, beq_eq_false_iff_ne, ne_eq, Int.not_lt, Int.not_le, Decidable.not_not] at hc61
                      refine g_seq (fun K16 hK16 => ?_)
                      refine g_region ?_
                      refine g_step rfl (s_val (v_assign rfl) rfl rfl ?_)
                      refine g_nil ?_
                      refine g_next hK16 ?_
                      first | refine g_keep [2] [] [] (keep_cons rfl keep_nil) lkeep_nil keep_nil rfl ?_ | refine g_keep [2] [] [] rfl rfl rfl rfl ?_
                      refine g_ret ?_
                      refine g_then_ret ?_
                      refine g_end1 (.inl rfl) Try.results15 (.tmp rfl) [] (ASub.refl _) (AHeap.sub_refl _) (fun p hp => by cases hp) ⟨rfl, ?_⟩
                      first | (rw [mvalid_eq]; first | (rw [show spValid m.sp = false by assumption]; rfl) | (rw [decide_eq_false (p := ValidP m) (by unfold ValidP; (try unfold LivesP at *); omega), Bool.false_and, Bool.and_false]; rfl); done) | (rw [mvalid_eq]; first | (rw [show spValid m.sp = false by assumption]; rfl) | (rw [decide_eq_false (p := ValidP m) (by unfold ValidP; (try unfold LivesP at *); omega), Bool.false_and, Bool.and_false]; rfl); rfl)
                    · try simp only [decide_eq_true_eq, decide_eq_false_iff_not, Bool.not_eq_true', Bool.not_eq_false', Bool.not_eq_eq_eq_not, Bool.not_true, Bool.not_false, Bool.and_eq_true, Bool.or_eq_true, Bool.or_eq_false_iff, beq_iff_eq, beq_eq_false_iff_ne, ne_eq, Int.not_lt, Int.not_le, Decidable.not_not] at hc61
                      refine g_skip ?_
                      refine g_next hK12 ?_
                      refine g_seq (fun K17 hK17 => ?_)
                      refine g_seq (fun K18 hK18 => ?_)
                      refine g_region ?_
                      refine g_step rfl (s_fieldAddr ty30 fo30_0 ty3 rfl rfl ?_)
                      refine g_step rfl (s_val (v_loadl ty3 rfl rfl rfl rfl) rfl rfl ?_)
                      refine g_step rfl (s_callp rfl rfl rfl (has_ok m.kind 4 _) ?_)
                      rintro _ rfl
                      rw [has10_4]
                      refine g_step rfl (s_val (v_not rfl) rfl rfl ?_)
                      refine g_nil ?_
                      refine g_next hK18 ?_
                      first | refine g_keep [65] [1] [1] (keep_cons rfl keep_nil) (lkeep_cons rfl lkeep_nil) (keep_cons rfl keep_nil) rfl ?_ | refine g_keep [65] [1] [1] rfl rfl rfl rfl ?_
                      refine g_cond rfl (fun hc65 => ?_) (fun hc65 => ?_)
                      · try simp only [decide_eq_true_eq, decide_eq_false_iff_not, Bool.not_eq_true', Bool.not_eq_false', Bool.not_eq_eq_eq_not, Bool.not_true, Bool.not_false, Bool.and_eq_true, Bool.or_eq_true, Bool.or_eq_false_iff, beq_iff_eq, beq_eq_false_iff_ne, ne_eq, Int.not_lt, Int.not_le, Decidable.not_not] at hc65
                        refine g_seq (fun K19 hK19 => ?_)
                        refine g_region ?_
                        refine g_step rfl (s_fieldAddr ty30 fo30_9 ty23 rfl rfl ?_)
                        refine g_step rfl (s_val (v_loadl ty23 rfl rfl rfl rfl) rfl rfl ?_)
                        refine g_step rfl (s_val (v_len ty23 rfl (by first | rfl | assumption) (by first | exact List.length_map .. | rfl)) rfl rfl ?_)
                        refine g_step rfl (s_val (v_eql rfl rfl) rfl rfl ?_)
                        refine g_step rfl (s_val (v_assign rfl) rfl rfl ?_)
                        refine g_nil ?_
                        refine g_next hK19 ?_
                        refine g_ret ?_
                        refine g_then_ret ?_
                        refine g_end1 (.inl rfl) Try.results15 (.tmp rfl) [] (ASub.refl _) (AHeap.sub_refl _) (fun p hp => by cases hp) ⟨rfl, ?_⟩
                        first | (rw [mvalid_eq, (show spValid m.sp = true by assumption), Bool.true_and, decide_eq_false (p := 4 ≤ m.kind ∧ m.kind ≤ 8) (by omega), Bool.not_false, Bool.true_or, Bool.and_true]; exact congrArg AV.bool (decide_eq_decide.2 (by unfold ValidP; (try unfold LivesP at *); omega)); done) | (rw [mvalid_eq, (show spValid m.sp = true by assumption), Bool.true_and, decide_eq_false (p := 4 ≤ m.kind ∧ m.kind ≤ 8) (by omega), Bool.not_false, Bool.true_or, Bool.and_true]; exact congrArg AV.bool (decide_eq_decide.2 (by unfold ValidP; (try unfold LivesP at *); omega)); rfl)
                      · try simp only [decide_eq_true_eq, decide_eq_false_iff_not, Bool.not_eq_true', Bool.not_eq_false', Bool.not_eq_eq_eq_not, Bool.not_true, Bool.not_false, Bool.and_eq_true, Bool.or_eq_true, Bool.or_eq_false_iff, beq_iff_eq, beq_eq_false_iff_ne, ne_eq, Int.not_lt, Int.not_le, Decidable.not_not] at hc65
                        refine g_skip ?_
                        refine g_next hK17 ?_
                        refine g_seq (fun K20 hK20 => ?_)
                        refine g_region ?_
                        refine g_step rfl (s_fieldAddr ty30 fo30_9 ty23 rfl rfl ?_)
                        refine g_step rfl (s_val (v_loadl ty23 rfl rfl rfl rfl) rfl rfl ?_)
                        refine g_step rfl (s_val (v_len ty23 rfl (by first | rfl | assumption) (by first | exact List.length_map .. | rfl)) rfl rfl ?_)
                        refine g_step rfl (s_val (v_leq rfl rfl) rfl rfl ?_)
                        refine g_step rfl (s_val (v_move rfl) rfl rfl ?_)
                        refine g_split 74 rfl (fun hg74 => ?_) (fun hg74 => ?_)
                        · try simp only [decide_eq_true_eq, decide_eq_false_iff_not, Bool.not_eq_true', Bool.not_eq_false', Bool.not_eq_eq_eq_not, Bool.not_true, Bool.not_false, Bool.and_eq_true, Bool.or_eq_true, Bool.or_eq_false_iff, beq_iff_eq, beq_eq_false_iff_ne, ne_eq, Int.not_lt, Int.not_le, Decidable.not_not] at hg74
                          refine g_step_yes (j := 4) (t := 74) rfl rfl rfl rfl (s_fieldAddr ty30 fo30_9 ty23 rfl rfl ?_)
                          refine g_step_yes (j := 4) (t := 74) rfl rfl rfl rfl (s_val (v_loadl ty23 rfl rfl rfl rfl) rfl rfl ?_)
                          refine g_step_yes (j := 4) (t := 74) rfl rfl rfl rfl (s_callp rfl rfl rfl (sorted_ok m.recs _ (by omega) hs) ?_)
                          rintro _ rfl
                          refine g_step rfl (s_val (v_pick_t rfl rfl) rfl rfl ?_)
                          refine g_step rfl (s_val (v_assign rfl) rfl rfl ?_)
                          refine g_nil ?_
                          refine g_next hK20 ?_
                          refine g_ret ?_
                          refine g_end1 (.inl rfl) Try.results15 (.tmp rfl) [] (ASub.refl _) (AHeap.sub_refl _) (fun p hp => by cases hp) ⟨rfl, ?_⟩
                          first | (rw [mvalid_eq, (show spValid m.sp = true by assumption), Bool.true_and, decide_eq_true (p := 4 ≤ m.kind ∧ m.kind ≤ 8) (by omega), Bool.not_true, Bool.false_or]; first | (rw [decide_eq_true (p := ValidP m) (by unfold ValidP; (try unfold LivesP at *); omega), Bool.true_and]; done) | (rw [decide_eq_false (p := ValidP m) (by unfold ValidP; (try unfold LivesP at *); omega), Bool.false_and]; rfl); done) | (rw [mvalid_eq, (show spValid m.sp = true by assumption), Bool.true_and, decide_eq_true (p := 4 ≤ m.kind ∧ m.kind ≤ 8) (by omega), Bool.not_true, Bool.false_or]; first | (rw [decide_eq_true (p := ValidP m) (by unfold ValidP; (try unfold LivesP at *); omega), Bool.true_and]; done) | (rw [decide_eq_false (p := ValidP m) (by unfold ValidP; (try unfold LivesP at *); omega), Bool.false_and]; rfl); rfl)
                        · try simp only [decide_eq_true_eq, decide_eq_false_iff_not, Bool.not_eq_true', Bool.not_eq_false', Bool.not_eq_eq_eq_not, Bool.not_true, Bool.not_false, Bool.and_eq_true, Bool.or_eq_true, Bool.or_eq_false_iff, beq_iff_eq, beq_eq_false_iff_ne, ne_eq, Int.not_lt, Int.not_le, Decidable.not_not] at hg74
                          refine g_step_no (j := 4) (t := 74) rfl rfl rfl rfl rfl rfl rfl ?_
                          refine g_step_no (j := 4) (t := 74) rfl rfl rfl rfl rfl rfl rfl ?_
                          refine g_step_no (j := 4) (t := 74) rfl rfl rfl rfl rfl rfl rfl ?_
                          refine g_step rfl (s_val (v_pick_f rfl rfl) rfl rfl ?_)
                          refine g_step rfl (s_val (v_assign rfl) rfl rfl ?_)
                          refine g_nil ?_
                          refine g_next hK20 ?_
                          refine g_ret ?_
                          refine g_end1 (.inl rfl) Try.results15 (.tmp rfl) [] (ASub.refl _) (AHeap.sub_refl _) (fun p hp => by cases hp) ⟨rfl, ?_⟩
                          first | (rw [mvalid_eq, (show spValid m.sp = true by assumption), Bool.true_and, decide_eq_true (p := 4 ≤ m.kind ∧ m.kind ≤ 8) (by omega), Bool.not_true, Bool.false_or]; first | (rw [decide_eq_true (p := ValidP m) (by unfold ValidP; (try unfold LivesP at *); omega), Bool.true_and]; done) | (rw [decide_eq_false (p := ValidP m) (by unfold ValidP; (try unfold LivesP at *); omega), Bool.false_and]; rfl); done) | (rw [mvalid_eq, (show spValid m.sp = true by assumption), Bool.true_and, decide_eq_true (p := 4 ≤ m.kind ∧ m.kind ≤ 8) (by omega), Bool.not_true, Bool.false_or]; first | (rw [decide_eq_true (p := ValidP m) (by unfold ValidP; (try unfold LivesP at *); omega), Bool.true_and]; done) | (rw [decide_eq_false (p := ValidP m) (by unfold ValidP; (try unfold LivesP at *); omega), Bool.false_and]; rfl); rfl)
              · try simp only [decide_eq_true_eq, decide_eq_false_iff_not, Bool.not_eq_true', Bool.not_eq_false', Bool.not_eq_eq_eq_not, Bool.not_true, Bool.not_false, Bool.and_eq_true, Bool.or_eq_true, Bool.or_eq_false_iff, beq_iff_eq, beq_eq_false_iff_ne, ne_eq, Int.not_lt, Int.not_le, Decidable.not_not] at hc38
                refine g_skip ?_
                refine g_next hK10 ?_
                refine g_seq (fun K21 hK21 => ?_)
                refine g_seq (fun K22 hK22 => ?_)
                refine g_draw (n := 23) (fun j => !([] : List Nat).contains j) rfl rfl ?_
                refine m_takel 0 rfl rfl (by kernel_rfl) (by kernel_rfl) (by kernel_rfl) (fun _ _ _ _ h => h) (vl_fieldAddr ty30 fo30_0 ty3 rfl) rfl rfl ?_
                refine m_take 1 true rfl rfl (by kernel_rfl) (by kernel_rfl) (by kernel_rfl) (fun _ _ _ _ h => h) (v_loadl ty3 rfl rfl rfl rfl) rfl rfl ?_
                refine m_takel 3 rfl rfl (by kernel_rfl) (by kernel_rfl) (by kernel_rfl) (fun _ _ _ _ h => h) (vl_fieldAddr ty30 fo30_4 ty3 rfl) rfl rfl ?_
                refine m_take 4 true rfl rfl (by kernel_rfl) (by kernel_rfl) (by kernel_rfl) (fun _ _ _ _ h => h) (v_loadl ty3 rfl rfl rfl rfl) rfl rfl ?_
                refine m_one 2 (by kernel_rfl) rfl rfl ?_
                refine sm_callp rfl rfl rfl (has_ok m.kind 0 _) ?_
                rintro _ rfl
                rw [has10_0]
                refine m_one 5 (by kernel_rfl) rfl rfl ?_
                refine sm_callp rfl rfl rfl (within_ok (decide (m.kind = 1 ∨ m.kind = 2 ∨ m.kind = 4 ∨ m.kind = 5 ∨ m.kind = 6)) m.seq 0 65535 _) ?_
                rintro _ rfl
                rw [mwithin_eq]
                refine m_take 6 false rfl rfl (by kernel_rfl) (by kernel_rfl) (by kernel_rfl) (fun _ _ _ _ h => h) (v_not rfl) rfl rfl ?_
                refine m_take 7 false rfl rfl (by kernel_rfl) (by kernel_rfl) (by kernel_rfl) (fun _ _ _ _ h => h) (v_move rfl) rfl rfl ?_
                refine m_split 46 rfl (fun hg46 => ?_) (fun hg46 => ?_)
                · try simp only [decide_eq_true_eq, decide_eq_false_iff_not, Bool.not_eq_true', Bool.not_eq_false', Bool.not_eq_eq_eq_not, Bool.not_true, Bool.not_false, Bool.and_eq_true, Bool.or_eq_true, Bool.or_eq_false_iff, beq_iff_eq, beq_eq_false_iff_ne, ne_eq, Int.not_lt, Int.not_le, Decidable.not_not] at hg46
                  refine m_take_no (j := 7) (t := 46) 8 rfl rfl rfl rfl rfl rfl (by kernel_rfl) (by kernel_rfl) (by kernel_rfl) (fun _ _ _ _ h => h) rfl rfl ?_
                  refine m_take_no (j := 7) (t := 46) 9 rfl rfl rfl rfl rfl rfl (by kernel_rfl) (by kernel_rfl) (by kernel_rfl) (fun _ _ _ _ h => h) rfl rfl ?_
                  refine m_take_no (j := 7) (t := 46) 10 rfl rfl rfl rfl rfl rfl (by kernel_rfl) (by kernel_rfl) (by kernel_rfl) (fun _ _ _ _ h => h) rfl rfl ?_
                  refine m_take_no (j := 7) (t := 46) 11 rfl rfl rfl rfl rfl rfl (by kernel_rfl) (by kernel_rfl) (by kernel_rfl) (fun _ _ _ _ h => h) rfl rfl ?_
                  refine m_take_no (j := 7) (t := 46) 12 rfl rfl rfl rfl rfl rfl (by kernel_rfl) (by kernel_rfl) (by kernel_rfl) (fun _ _ _ _ h => h) rfl rfl ?_
                  refine m_take_no (j := 7) (t := 46) 13 rfl rfl rfl rfl rfl rfl (by kernel_rfl) (by kernel_rfl) (by kernel_rfl) (fun _ _ _ _ h => h) rfl rfl ?_
                  refine m_take_no (j := 7) (t := 46) 14 rfl rfl rfl rfl rfl rfl (by kernel_rfl) (by kernel_rfl) (by kernel_rfl) (fun _ _ _ _ h => h) rfl rfl ?_
                  refine m_take_no (j := 7) (t := 46) 15 rfl rfl rfl rfl rfl rfl (by kernel_rfl) (by kernel_rfl) (by kernel_rfl) (fun _ _ _ _ h => h) rfl rfl ?_
                  refine m_take_no (j := 7) (t := 46) 16 rfl rfl rfl rfl rfl rfl (by kernel_rfl) (by kernel_rfl) (by kernel_rfl) (fun _ _ _ _ h => h) rfl rfl ?_
                  refine m_take 17 false rfl rfl (by kernel_rfl) (by kernel_rfl) (by kernel_rfl) (fun _ _ _ _ h => h) (v_pick_t rfl rfl) rfl rfl ?_
                  refine m_take 18 false rfl rfl (by kernel_rfl) (by kernel_rfl) (by kernel_rfl) (fun _ _ _ _ h => h) (v_move rfl) rfl rfl ?_
                  refine m_take_no (j := 18) (t := 57) 19 rfl rfl rfl rfl rfl rfl (by kernel_rfl) (by kernel_rfl) (by kernel_rfl) (fun _ _ _ _ h => h) rfl rfl ?_
                  refine m_take_no (j := 18) (t := 57) 20 rfl rfl rfl rfl rfl rfl (by kernel_rfl) (by kernel_rfl) (by kernel_rfl) (fun _ _ _ _ h => h) rfl rfl ?_
                  refine m_take_no (j := 18) (t := 57) 21 rfl rfl rfl rfl rfl rfl (by kernel_rfl) (by kernel_rfl) (by kernel_rfl) (fun _ _ _ _ h => h) rfl rfl ?_
                  refine m_take 22 false rfl rfl (by kernel_rfl) (by kernel_rfl) (by kernel_rfl) (fun _ _ _ _ h => h) (v_pick_t rfl rfl) rfl rfl ?_
                  refine m_done (by kernel_rfl) ?_
                  refine g_next hK22 ?_
                  first | refine g_keep [61] [1] [1] (keep_cons rfl keep_nil) (lkeep_cons rfl lkeep_nil) (keep_cons rfl keep_nil) rfl ?_ | refine g_keep [61] [1] [1] rfl rfl rfl rfl ?_
                  refine g_cond rfl (fun _ => ?_) (fun h => by cases h)
                  refine g_seq (fun K23 hK23 => ?_)
                  refine g_region ?_
                  refine g_step rfl (s_val (v_assign rfl) rfl rfl ?_)
                  refine g_nil ?_
                  refine g_next hK23 ?_
                  refine g_ret ?_
                  refine g_then_ret ?_
                  refine g_end1 (.inl rfl) Try.results15 (.tmp rfl) [] (ASub.refl _) (AHeap.sub_refl _) (fun p hp => by cases hp) ⟨rfl, ?_⟩
                  first | (rw [mvalid_eq]; first | (rw [show spValid m.sp = false by assumption]; rfl) | (rw [decide_eq_false (p := ValidP m) (by unfold ValidP; (try unfold LivesP at *); omega), Bool.false_and, Bool.and_false]; rfl); done) | (rw [mvalid_eq]; first | (rw [show spValid m.sp = false by assumption]; rfl) | (rw [decide_eq_false (p := ValidP m) (by unfold ValidP; (try unfold LivesP at *); omega), Bool.false_and, Bool.and_false]; rfl); rfl)
                · try simp only [decide_eq_true_eq, decide_eq_false_iff_not, Bool.not_eq_true', Bool.not_eq_false', Bool.not_eq_eq_eq_not, Bool.not_true, Bool.not_false, Bool.and_eq_true, Bool.or_eq_true, Bool.or_eq_false_iff, beq_iff_eq, beq_eq_false_iff_ne, ne_eq, Int.not_lt, Int.not_le, Decidable.not_not] at hg46
                  refine m_takel_yes (j := 7) (t := 46) 8 rfl rfl rfl rfl rfl (by kernel_rfl) (by kernel_rfl) (by kernel_rfl) (fun _ _ _ _ h => h) (vl_fieldAddr ty30 fo30_0 ty3 rfl) rfl rfl ?_
                  refine m_take_yes (j := 7) (t := 46) 9 true rfl rfl rfl rfl rfl (by kernel_rfl) (by kernel_rfl) (by kernel_rfl) (fun _ _ _ _ h => h) (v_loadl ty3 rfl rfl rfl rfl) rfl rfl ?_
                  refine m_takel_yes (j := 7) (t := 46) 11 rfl rfl rfl rfl rfl (by kernel_rfl) (by kernel_rfl) (by kernel_rfl) (fun _ _ _ _ h => h) (vl_fieldAddr ty30 fo30_5 ty3 rfl) rfl rfl ?_
                  refine m_take_yes (j := 7) (t := 46) 12 true rfl rfl rfl rfl rfl (by kernel_rfl) (by kernel_rfl) (by kernel_rfl) (fun _ _ _ _ h => h) (v_loadl ty3 rfl rfl rfl rfl) rfl rfl ?_
                  refine m_take_yes (j := 7) (t := 46) 13 false rfl rfl rfl rfl rfl (by kernel_rfl) (by kernel_rfl) (by kernel_rfl) (fun _ _ _ _ h => h) (v_move rfl) rfl rfl ?_
                  refine m_take_yes (j := 7) (t := 46) 14 false rfl rfl rfl rfl rfl (by kernel_rfl) (by kernel_rfl) (by kernel_rfl) (fun _ _ _ _ h => h) (v_move rfl) rfl rfl ?_
                  refine m_one_yes (j := 7) (t := 46) 10 (by kernel_rfl) rfl rfl rfl rfl rfl ?_
                  refine sm_callp rfl rfl rfl (has_ok m.kind 1 _) ?_
                  rintro _ rfl
                  rw [has10_1]
                  refine m_one_yes (j := 7) (t := 46) 15 (by kernel_rfl) rfl rfl rfl rfl rfl ?_
                  refine sm_callp rfl rfl rfl (within_ok (decide (m.kind = 3 ∨ m.kind = 6)) m.target _ _ _) ?_
                  rintro _ rfl
                  rw [mwithin_eq]
                  refine m_take_yes (j := 7) (t := 46) 16 false rfl rfl rfl rfl rfl (by kernel_rfl) (by kernel_rfl) (by kernel_rfl) (fun _ _ _ _ h => h) (v_not rfl) rfl rfl ?_
                  refine m_take 17 false rfl rfl (by kernel_rfl) (by kernel_rfl) (by kernel_rfl) (fun _ _ _ _ h => h) (v_pick_f rfl rfl) rfl rfl ?_
                  refine m_take 18 false rfl rfl (by kernel_rfl) (by kernel_rfl) (by kernel_rfl) (fun _ _ _ _ h => h) (v_move rfl) rfl rfl ?_
                  refine m_split 57 rfl (fun hg57 => ?_) (fun hg57 => ?_)
                  · try simp only [decide_eq_true_eq, decide_eq_false_iff_not, Bool.not_eq_true', Bool.not_eq_false', Bool.not_eq_eq_eq_not, Bool.not_true, Bool.not_false, Bool.and_eq_true, Bool.or_eq_true, Bool.or_eq_false_iff, beq_iff_eq, beq_eq_false_iff_ne, ne_eq, Int.not_lt, Int.not_le, Decidable.not_not] at hg57
                    refine m_take_no (j := 18) (t := 57) 19 rfl rfl rfl rfl rfl rfl (by kernel_rfl) (by kernel_rfl) (by kernel_rfl) (fun _ _ _ _ h => h) rfl rfl ?_
                    refine m_take_no (j := 18) (t := 57) 20 rfl rfl rfl rfl rfl rfl (by kernel_rfl) (by kernel_rfl) (by kernel_rfl) (fun _ _ _ _ h => h) rfl rfl ?_
                    refine m_take_no (j := 18) (t := 57) 21 rfl rfl rfl rfl rfl rfl (by kernel_rfl) (by kernel_rfl) (by kernel_rfl) (fun _ _ _ _ h => h) rfl rfl ?_
                    refine m_take 22 false rfl rfl (by kernel_rfl) (by kernel_rfl) (by kernel_rfl) (fun _ _ _ _ h => h) (v_pick_t rfl rfl) rfl rfl ?_
                    refine m_done (by kernel_rfl) ?_
                    refine g_next hK22 ?_
                    refine g_cond rfl (fun _ => ?_) (fun h => by cases h)
                    refine g_seq (fun K24 hK24 => ?_)
                    refine g_region ?_
                    refine g_step rfl (s_val (v_assign rfl) rfl rfl ?_)
                    refine g_nil ?_
                    refine g_next hK24 ?_
                    first | refine g_keep [2] [] [] (keep_cons rfl keep_nil) lkeep_nil keep_nil rfl ?_ | refine g_keep [2] [] [] rfl rfl rfl rfl ?_
                    refine g_ret ?_
                    refine g_then_ret ?_
                    refine g_end1 (.inl rfl) Try.results15 (.tmp rfl) [] (ASub.refl _) (AHeap.sub_refl _) (fun p hp => by cases hp) ⟨rfl, ?_⟩
                    first | (rw [mvalid_eq]; first | (rw [show spValid m.sp = false by assumption]; rfl) | (rw [decide_eq_false (p := ValidP m) (by unfold ValidP; (try unfold LivesP at *); omega), Bool.false_and, Bool.and_false]; rfl); done) | (rw [mvalid_eq]; first | (rw [show spValid m.sp = false by assumption]; rfl) | (rw [decide_eq_false (p := ValidP m) (by unfold ValidP; (try unfold LivesP at *); omega), Bool.false_and, Bool.and_false]; rfl); rfl)
                  · try simp only [decide_eq_true_eq, decide_eq_false_iff_not, Bool.not_eq_true', Bool.not_eq_false', Bool.not_eq_eq_eq_not, Bool.not_true, Bool.not_false, Bool.and_eq_true, Bool.or_eq_true, Bool.or_eq_false_iff, beq_iff_eq, beq_eq_false_iff_ne, ne_eq, Int.not_lt, Int.not_le, Decidable.not_not] at hg57
                    refine m_take_yes (j := 18) (t := 57) 19 true rfl rfl rfl rfl rfl (by kernel_rfl) (by kernel_rfl) (by kernel_rfl) (fun _ _ _ _ h => h) (by first | exact v_loadl_all ty30 rfl rfl rfl rfl rfl | exact v_loadl_part (cs := [_, _, _, _, _, _, _, _, _, _, _]) ty30 rfl rfl rfl rfl rfl rfl) rfl rfl ?_
                    refine m_one_yes (j := 18) (t := 57) 20 (by kernel_rfl) rfl rfl rfl rfl rfl ?_
                    refine sm_callp rfl rfl rfl (lives_ok m _) ?_
                    rintro _ rfl
                    rw [mlives_eq]
                    refine m_take_yes (j := 18) (t := 57) 21 false rfl rfl rfl rfl rfl (by kernel_rfl) (by kernel_rfl) (by kernel_rfl) (fun _ _ _ _ h => h) (v_not rfl) rfl rfl ?_
                    refine m_take 22 false rfl rfl (by kernel_rfl) (by kernel_rfl) (by kernel_rfl) (fun _ _ _ _ h => h) (v_pick_f rfl rfl) rfl rfl ?_
                    refine m_done (by kernel_rfl) ?_
                    refine g_next hK22 ?_
                    refine g_cond rfl (fun hc61 => ?_) (fun hc61 => ?_)
                    · try simp only [decide_eq_true_eq, decide_eq_false_iff_not, Bool.not_eq_true', Bool.not_eq_false', Bool.not_eq_eq_eq_not, Bool.not_true, Bool.not_false, Bool.and_eq_true, Bool.or_eq_true, Bool.or_eq_false_iff, beq_iff_eq, beq_eq_false_iff_ne, ne_eq, Int.not_lt, Int.not_le, Decidable.not_not] at hc61
                      refine g_seq (fun K25 hK25 => ?_)
                      refine g_region ?_
                      refine g_step rfl (s_val (v_assign rfl) rfl rfl ?_)
                      refine g_nil ?_
                      refine g_next hK25 ?_
                      first | refine g_keep [2] [] [] (keep_cons rfl keep_nil) lkeep_nil keep_nil rfl ?_ | refine g_keep [2] [] [] rfl rfl rfl rfl ?_
                      refine g_ret ?_
                      refine g_then_ret ?_
                      refine g_end1 (.inl rfl) Try.results15 (.tmp rfl) [] (ASub.refl _) (AHeap.sub_refl _) (fun p hp => by cases hp) ⟨rfl, ?_⟩
                      first | (rw [mvalid_eq]; first | (rw [show spValid m.sp = false by assumption]; rfl) | (rw [decide_eq_false (p := ValidP m) (by unfold ValidP; (try unfold LivesP at *); omega), Bool.false_and, Bool.and_false]; rfl); done) | (rw [mvalid_eq]; first | (rw [show spValid m.sp = false by assumption]; rfl) | (rw [decide_eq_false (p := ValidP m) (by unfold ValidP; (try unfold LivesP at *); omega), Bool.false_and, Bool.and_false]; rfl); rfl)
                    · try simp only [decide_eq_true_eq, decide_eq_false_iff_not, Bool.not_eq_true', Bool.not_eq_false', Bool.not_eq_eq_eq_not, Bool.not_true, Bool.not_false, Bool.and_eq_true, Bool.or_eq_true, Bool.or_eq_false_iff, beq_iff_eq, beq_eq_false_iff_ne, ne_eq, Int.not_lt, Int.not_le, Decidable.not_not] at hc61
                      refine g_skip ?_
                      refine g_next hK21 ?_
                      refine g_seq (fun K26 hK26 => ?_)
                      refine g_seq (fun K27 hK27 => ?_)
                      refine g_region ?_
                      refine g_step rfl (s_fieldAddr ty30 fo30_0 ty3 rfl rfl ?_)
                      refine g_step rfl (s_val (v_loadl ty3 rfl rfl rfl rfl) rfl rfl ?_)
                      refine g_step rfl (s_callp rfl rfl rfl (has_ok m.kind 4 _) ?_)
                      rintro _ rfl
                      rw [has10_4]
                      refine g_step rfl (s_val (v_not rfl) rfl rfl ?_)
                      refine g_nil ?_
                      refine g_next hK27 ?_
                      first | refine g_keep [65] [1] [1] (keep_cons rfl keep_nil) (lkeep_cons rfl lkeep_nil) (keep_cons rfl keep_nil) rfl ?_ | refine g_keep [65] [1] [1] rfl rfl rfl rfl ?_
                      refine g_cond rfl (fun hc65 => ?_) (fun hc65 => ?_)
                      · try simp only [decide_eq_true_eq, decide_eq_false_iff_not, Bool.not_eq_true', Bool.not_eq_false', Bool.not_eq_eq_eq_not, Bool.not_true, Bool.not_false, Bool.and_eq_true, Bool.or_eq_true, Bool.or_eq_false_iff, beq_iff_eq, beq_eq_false_iff_ne, ne_eq, Int.not_lt, Int.not_le, Decidable.not_not] at hc65
                        refine g_seq (fun K28 hK28 => ?_)
                        refine g_region ?_
                        refine g_step rfl (s_fieldAddr ty30 fo30_9 ty23 rfl rfl ?_)
                        refine g_step rfl (s_val (v_loadl ty23 rfl rfl rfl rfl) rfl rfl ?_)
                        refine g_step rfl (s_val (v_len ty23 rfl (by first | rfl | assumption) (by first | exact List.length_map .. | rfl)) rfl rfl ?_)
                        refine g_step rfl (s_val (v_eql rfl rfl) rfl rfl ?_)
                        refine g_step rfl (s_val (v_assign rfl) rfl rfl ?_)
                        refine g_nil ?_
                        refine g_next hK28 ?_
                        refine g_ret ?_
                        refine g_then_ret ?_
                        refine g_end1 (.inl rfl) Try.results15 (.tmp rfl) [] (ASub.refl _) (AHeap.sub_refl _) (fun p hp => by cases hp) ⟨rfl, ?_⟩
                        first | (rw [mvalid_eq, (show spValid m.sp = true by assumption), Bool.true_and, decide_eq_false (p := 4 ≤ m.kind ∧ m.kind ≤ 8) (by omega), Bool.not_false, Bool.true_or, Bool.and_true]; exact congrArg AV.bool (decide_eq_decide.2 (by unfold ValidP; (try unfold LivesP at *); omega)); done) | (rw [mvalid_eq, (show spValid m.sp = true by assumption), Bool.true_and, decide_eq_false (p := 4 ≤ m.kind ∧ m.kind ≤ 8) (by omega), Bool.not_false, Bool.true_or, Bool.and_true]; exact congrArg AV.bool (decide_eq_decide.2 (by unfold ValidP; (try unfold LivesP at *); omega)); rfl)
                      · try simp only [decide_eq_true_eq, decide_eq_false_iff_not, Bool.not_eq_true', Bool.not_eq_false', Bool.not_eq_eq_eq_not, Bool.not_true, Bool.not_false, Bool.and_eq_true, Bool.or_eq_true, Bool.or_eq_false_iff, beq_iff_eq, beq_eq_false_iff_ne, ne_eq, Int.not_lt, Int.not_le, Decidable.not_not] at hc65
                        refine g_skip ?_
                        refine g_next hK26 ?_
                        refine g_seq (fun K29 hK29 => ?_)
                        refine g_region ?_
                        refine g_step rfl (s_fieldAddr ty30 fo30_9 ty23 rfl rfl ?_)
                        refine g_step rfl (s_val (v_loadl ty23 rfl rfl rfl rfl) rfl rfl ?_)
                        refine g_step rfl (s_val (v_len ty23 rfl (by first | rfl | assumption) (by first | exact List.length_map .. | rfl)) rfl rfl ?_)
                        refine g_step rfl (s_val (v_leq rfl rfl) rfl rfl ?_)
                        refine g_step rfl (s_val (v_move rfl) rfl rfl ?_)
                        refine g_split 74 rfl (fun hg74 => ?_) (fun hg74 => ?_)
                        · try simp only [decide_eq_true_eq, decide_eq_false_iff_not, Bool.not_eq_true', Bool.not_eq_false', Bool.not_eq_eq_eq_not, Bool.not_true, Bool.not_false, Bool.and_eq_true, Bool.or_eq_true, Bool.or_eq_false_iff, beq_iff_eq, beq_eq_false_iff_ne, ne_eq, Int.not_lt, Int.not_le, Decidable.not_not] at hg74
                          refine g_step_yes (j := 4) (t := 74) rfl rfl rfl rfl (s_fieldAddr ty30 fo30_9 ty23 rfl rfl ?_)
                          refine g_step_yes (j := 4) (t := 74) rfl rfl rfl rfl (s_val (v_loadl ty23 rfl rfl rfl rfl) rfl rfl ?_)
                          refine g_step_yes (j := 4) (t := 74) rfl rfl rfl rfl (s_callp rfl rfl rfl (sorted_ok m.recs _ (by omega) hs) ?_)
                          rintro _ rfl
                          refine g_step rfl (s_val (v_pick_t rfl rfl) rfl rfl ?_)
                          refine g_step rfl (s_val (v_assign rfl) rfl rfl ?_)
                          refine g_nil ?_
                          refine g_next hK29 ?_
                          refine g_ret ?_
                          refine g_end1 (.inl rfl) Try.results15 (.tmp rfl) [] (ASub.refl _) (AHeap.sub_refl _) (fun p hp => by cases hp) ⟨rfl, ?_⟩
                          first | (rw [mvalid_eq, (show spValid m.sp = true by assumption), Bool.true_and, decide_eq_true (p := 4 ≤ m.kind ∧ m.kind ≤ 8) (by omega), Bool.not_true, Bool.false_or]; first | (rw [decide_eq_true (p := ValidP m) (by unfold ValidP; (try unfold LivesP at *); omega), Bool.true_and]; done) | (rw [decide_eq_false (p := ValidP m) (by unfold ValidP; (try unfold LivesP at *); omega), Bool.false_and]; rfl); done) | (rw [mvalid_eq, (show spValid m.sp = true by assumption), Bool.true_and, decide_eq_true (p := 4 ≤ m.kind ∧ m.kind ≤ 8) (by omega), Bool.not_true, Bool.false_or]; first | (rw [decide_eq_true (p := ValidP m) (by unfold ValidP; (try unfold LivesP at *); omega), Bool.true_and]; done) | (rw [decide_eq_false (p := ValidP m) (by unfold ValidP; (try unfold LivesP at *); omega), Bool.false_and]; rfl); rfl)
                        · try simp only [decide_eq_true_eq, decide_eq_false_iff_not, Bool.not_eq_true', Bool.not_eq_false', Bool.not_eq_eq_eq_not, Bool.not_true, Bool.not_false, Bool.and_eq_true, Bool.or_eq_true, Bool.or_eq_false_iff, beq_iff_eq, beq_eq_false_iff_ne, ne_eq, Int.not_lt, Int.not_le, Decidable.not_not] at hg74
                          refine g_step_no (j := 4) (t := 74) rfl rfl rfl rfl rfl rfl rfl ?_
                          refine g_step_no (j := 4) (t := 74) rfl rfl rfl rfl rfl rfl rfl ?_
                          refine g_step_no (j := 4) (t := 74) rfl rfl rfl rfl rfl rfl rfl ?_
                          refine g_step rfl (s_val (v_pick_f rfl rfl) rfl rfl ?_)
                          refine g_step rfl (s_val (v_assign rfl) rfl rfl ?_)
                          refine g_nil ?_
                          refine g_next hK29 ?_
                          refine g_ret ?_
                          refine g_end1 (.inl rfl) Try.results15 (.tmp rfl) [] (ASub.refl _) (AHeap.sub_refl _) (fun p hp => by cases hp) ⟨rfl, ?_⟩
                          first | (rw [mvalid_eq, (show spValid m.sp = true by assumption), Bool.true_and, decide_eq_true (p := 4 ≤ m.kind ∧ m.kind ≤ 8) (by omega), Bool.not_true, Bool.false_or]; first | (rw [decide_eq_true (p := ValidP m) (by unfold ValidP; (try unfold LivesP at *); omega), Bool.true_and]; done) | (rw [decide_eq_false (p := ValidP m) (by unfold ValidP; (try unfold LivesP at *); omega), Bool.false_and]; rfl); done) | (rw [mvalid_eq, (show spValid m.sp = true by assumption), Bool.true_and, decide_eq_true (p := 4 ≤ m.kind ∧ m.kind ≤ 8) (by omega), Bool.not_true, Bool.false_or]; first | (rw [decide_eq_true (p := ValidP m) (by unfold ValidP; (try unfold LivesP at *); omega), Bool.true_and]; done) | (rw [decide_eq_false (p := ValidP m) (by unfold ValidP; (try unfold LivesP at *); omega), Bool.false_and]; rfl); rfl)

theorem msame_ok (a b : Mg) (G : AHeap) (hl : a.recs.length ≤ 100000) (hs : ∀ x ∈ a.recs, Small x.bag) : PCalls Try.prog 39 [encM a, encM b] G (fun r => r = .bool (decide (a = b))) := by
  refine LCalls.intro 71 fi39 rfl Try.ntmps39 rfl (fun _ h => h.elim) (fun H hH w0 hw0 => ?_)
  refine g_seq (fun K0 hK0 => ?_)
  refine g_region ?_
  refine g_step rfl (s_box rfl rfl rfl rfl ?_)
  refine g_step rfl (s_box rfl rfl rfl rfl ?_)
  refine g_step rfl (s_val (v_assign rfl) rfl rfl ?_)
  refine g_nil ?_
  refine g_next hK0 ?_
  refine g_seq (fun K1 hK1 => ?_)
  refine g_block ?_
  refine g_seq (fun K2 hK2 => ?_)
  refine g_region ?_
  refine g_step rfl (s_fieldAddr ty30 fo30_0 ty3 rfl rfl ?_)
  refine g_step rfl (s_val (v_loadl ty3 rfl rfl rfl rfl) rfl rfl ?_)
  refine g_step rfl (s_fieldAddr ty30 fo30_0 ty3 rfl rfl ?_)
  refine g_step rfl (s_val (v_loadl ty3 rfl rfl rfl rfl) rfl rfl ?_)
  refine g_step rfl (s_val (v_neq rfl rfl) rfl rfl ?_)
  refine g_step rfl (s_val (v_move rfl) rfl rfl ?_)
  refine g_split 16 rfl (fun hg16 => ?_) (fun hg16 => ?_)
  · try simp only [decide_eq_true_eq, decide_eq_false_iff_not, Bool.not_eq_true', Bool.not_eq_false', Bool.not_eq_eq_eq_not, Bool.not_true, Bool.not_false, Bool.and_eq_true, Bool.or_eq_true, Bool.or_eq_false_iff, beq_iff_eq, beq_eq_false_iff_ne, ne_eq, Int.not_lt, Int.not_le, Decidable.not_not] at hg16
    refine g_step_no (j := 5) (t := 16) rfl rfl rfl rfl rfl rfl rfl ?_
    refine g_step_no (j := 5) (t := 16) rfl rfl rfl rfl rfl rfl rfl ?_
    refine g_step_no (j := 5) (t := 16) rfl rfl rfl rfl rfl rfl rfl ?_
    refine g_step_no (j := 5) (t := 16) rfl rfl rfl rfl rfl rfl rfl ?_
    refine g_step_no (j := 5) (t := 16) rfl rfl rfl rfl rfl rfl rfl ?_
    refine g_step rfl (s_val (v_pick_t rfl rfl) rfl rfl ?_)
    refine g_step rfl (s_val (v_move rfl) rfl rfl ?_)
    refine g_step_no (j := 12) (t := 23) rfl rfl rfl rfl rfl rfl rfl ?_
    refine g_step_no (j := 12) (t := 23) rfl rfl rfl rfl rfl rfl rfl ?_
    refine g_step_no (j := 12) (t := 23) rfl rfl rfl rfl rfl rfl rfl ?_
    refine g_step_no (j := 12) (t := 23) rfl rfl rfl rfl rfl rfl rfl ?_
    refine g_step_no (j := 12) (t := 23) rfl rfl rfl rfl rfl rfl rfl ?_
    refine g_step rfl (s_val (v_pick_t rfl rfl) rfl rfl ?_)
    refine g_step rfl (s_val (v_move rfl) rfl rfl ?_)
    refine g_step_no (j := 19) (t := 30) rfl rfl rfl rfl rfl rfl rfl ?_
    refine g_step_no (j := 19) (t := 30) rfl rfl rfl rfl rfl rfl rfl ?_
    refine g_step_no (j := 19) (t := 30) rfl rfl rfl rfl rfl rfl rfl ?_
    refine g_step_no (j := 19) (t := 30) rfl rfl rfl rfl rfl rfl rfl ?_
    refine g_step_no (j := 19) (t := 30) rfl rfl rfl rfl rfl rfl rfl ?_
    refine g_step rfl (s_val (v_pick_t rfl rfl) rfl rfl ?_)
    refine g_step rfl (s_val (v_assign rfl) rfl rfl ?_)
    refine g_nil ?_
    refine g_next hK2 ?_
    first | refine g_keep [10] [2, 3] [2, 3] (keep_cons rfl keep_nil) (lkeep_cons rfl (lkeep_cons rfl lkeep_nil)) (keep_cons rfl (keep_cons rfl keep_nil)) rfl ?_ | refine g_keep [10] [2, 3] [2, 3] rfl rfl rfl rfl ?_
    refine g_cond rfl (fun _ => ?_) (fun h => by cases h)
    refine g_skip ?_
    refine g_block_normal ?_
    refine g_next hK1 ?_
    refine g_seq (fun K3 hK3 => ?_)
    refine g_region ?_
    refine g_step rfl (s_val (v_assign rfl) rfl rfl ?_)
    refine g_nil ?_
    refine g_next hK3 ?_
    refine g_ret ?_
    refine g_end1 (.inl rfl) Try.results39 (.tmp rfl) [] (ASub.refl _) (AHeap.sub_refl _) (fun p hp => by cases hp) ⟨rfl, ?_⟩
    first | (rw [decide_eq_false (p := a = b) (by rw [mg_eq]; first | omega | simp_all)]; done) | (rw [decide_eq_false (p := a = b) (by rw [mg_eq]; first | omega | simp_all)]; rfl)
  · try simp only [decide_eq_true_eq, decide_eq_false_iff_not, Bool.not_eq_true', Bool.not_eq_false', Bool.not_eq_eq_eq_not, Bool.not_true, Bool.not_false, Bool.and_eq_true, Bool.or_eq_true, Bool.or_eq_false_iff, beq_iff_eq, beq_eq_false_iff_ne, ne_eq, Int.not_lt, Int.not_le, Decidable.not_not] at hg16
    refine g_step_yes (j := 5) (t := 16) rfl rfl rfl rfl (s_fieldAddr ty30 fo30_1 ty3 rfl rfl ?_)
    refine g_step_yes (j := 5) (t := 16) rfl rfl rfl rfl (s_val (v_loadl ty3 rfl rfl rfl rfl) rfl rfl ?_)
    refine g_step_yes (j := 5) (t := 16) rfl rfl rfl rfl (s_fieldAddr ty30 fo30_1 ty3 rfl rfl ?_)
    refine g_step_yes (j := 5) (t := 16) rfl rfl rfl rfl (s_val (v_loadl ty3 rfl rfl rfl rfl) rfl rfl ?_)
    refine g_step_yes (j := 5) (t := 16) rfl rfl rfl rfl (s_val (v_neq rfl rfl) rfl rfl ?_)
    refine g_step rfl (s_val (v_pick_f rfl rfl) rfl rfl ?_)
    refine g_step rfl (s_val (v_move rfl) rfl rfl ?_)
    refine g_split 23 rfl (fun hg23 => ?_) (fun hg23 => ?_)
    · try simp only [decide_eq_true_eq, decide_eq_false_iff_not, Bool.not_eq_true', Bool.not_eq_false', Bool.not_eq_eq_eq_not, Bool.not_true, Bool.not_false, Bool.and_eq_true, Bool.or_eq_true, Bool.or_eq_false_iff, beq_iff_eq, beq_eq_false_iff_ne, ne_eq, Int.not_lt, Int.not_le, Decidable.not_not] at hg23
      refine g_step_no (j := 12) (t := 23) rfl rfl rfl rfl rfl rfl rfl ?_
      refine g_step_no (j := 12) (t := 23) rfl rfl rfl rfl rfl rfl rfl ?_
      refine g_step_no (j := 12) (t := 23) rfl rfl rfl rfl rfl rfl rfl ?_
      refine g_step_no (j := 12) (t := 23) rfl rfl rfl rfl rfl rfl rfl ?_
      refine g_step_no (j := 12) (t := 23) rfl rfl rfl rfl rfl rfl rfl ?_
      refine g_step rfl (s_val (v_pick_t rfl rfl) rfl rfl ?_)
      refine g_step rfl (s_val (v_move rfl) rfl rfl ?_)
      refine g_step_no (j := 19) (t := 30) rfl rfl rfl rfl rfl rfl rfl ?_
      refine g_step_no (j := 19) (t := 30) rfl rfl rfl rfl rfl rfl rfl ?_
      refine g_step_no (j := 19) (t := 30) rfl rfl rfl rfl rfl rfl rfl ?_
      refine g_step_no (j := 19) (t := 30) rfl rfl rfl rfl rfl rfl rfl ?_
      refine g_step_no (j := 19) (t := 30) rfl rfl rfl rfl rfl rfl rfl ?_
      refine g_step rfl (s_val (v_pick_t rfl rfl) rfl rfl ?_)
      refine g_step rfl (s_val (v_assign rfl) rfl rfl ?_)
      refine g_nil ?_
      refine g_next hK2 ?_
      first | refine g_keep [10] [2, 3] [2, 3] (keep_cons rfl keep_nil) (lkeep_cons rfl (lkeep_cons rfl lkeep_nil)) (keep_cons rfl (keep_cons rfl keep_nil)) rfl ?_ | refine g_keep [10] [2, 3] [2, 3] rfl rfl rfl rfl ?_
      refine g_cond rfl (fun _ => ?_) (fun h => by cases h)
      refine g_skip ?_
      refine g_block_normal ?_
      refine g_next hK1 ?_
      refine g_seq (fun K4 hK4 => ?_)
      refine g_region ?_
      refine g_step rfl (s_val (v_assign rfl) rfl rfl ?_)
      refine g_nil ?_
      refine g_next hK4 ?_
      refine g_ret ?_
      refine g_end1 (.inl rfl) Try.results39 (.tmp rfl) [] (ASub.refl _) (AHeap.sub_refl _) (fun p hp => by cases hp) ⟨rfl, ?_⟩
      first | (rw [decide_eq_false (p := a = b) (by rw [mg_eq]; first | omega | simp_all)]; done) | (rw [decide_eq_false (p := a = b) (by rw [mg_eq]; first | omega | simp_all)]; rfl)
    · try simp only [decide_eq_true_eq, decide_eq_false_iff_not, Bool.not_eq_true', Bool.not_eq_false', Bool.not_eq_eq_eq_not, Bool.not_true, Bool.not_false, Bool.and_eq_true, Bool.or_eq_true, Bool.or_eq_false_iff, beq_iff_eq, beq_eq_false_iff_ne, ne_eq, Int.not_lt, Int.not_le, Decidable.not_not] at hg23
      refine g_step_yes (j := 12) (t := 23) rfl rfl rfl rfl (s_fieldAddr ty30 fo30_2 ty3 rfl rfl ?_)
      refine g_step_yes (j := 12) (t := 23) rfl rfl rfl rfl (s_val (v_loadl ty3 rfl rfl rfl rfl) rfl rfl ?_)
      refine g_step_yes (j := 12) (t := 23) rfl rfl rfl rfl (s_fieldAddr ty30 fo30_2 ty3 rfl rfl ?_)
      refine g_step_yes (j := 12) (t := 23) rfl rfl rfl rfl (s_val (v_loadl ty3 rfl rfl rfl rfl) rfl rfl ?_)
      refine g_step_yes (j := 12) (t := 23) rfl rfl rfl rfl (s_val (v_neq rfl rfl) rfl rfl ?_)
      refine g_step rfl (s_val (v_pick_f rfl rfl) rfl rfl ?_)
      refine g_step rfl (s_val (v_move rfl) rfl rfl ?_)
      refine g_split 30 rfl (fun hg30 => ?_) (fun hg30 => ?_)
      · try simp only [decide_eq_true_eq, decide_eq_false_iff_not, Bool.not_eq_true', Bool.not_eq_false', Bool.not_eq_eq_eq_not, Bool.not_true, Bool.not_false, Bool.and_eq_true, Bool.or_eq_true, Bool.or_eq_false_iff, beq_iff_eq, beq_eq_false_iff_ne, ne_eq, Int.not_lt, Int.not_le, Decidable.not_not] at hg30
        refine g_step_no (j := 19) (t := 30) rfl rfl rfl rfl rfl rfl rfl ?_
        refine g_step_no (j := 19) (t := 30) rfl rfl rfl rfl rfl rfl rfl ?_
        refine g_step_no (j := 19) (t := 30) rfl rfl rfl rfl rfl rfl rfl ?_
        refine g_step_no (j := 19) (t := 30) rfl rfl rfl rfl rfl rfl rfl ?_
        refine g_step_no (j := 19) (t := 30) rfl rfl rfl rfl rfl rfl rfl ?_
        refine g_step rfl (s_val (v_pick_t rfl rfl) rfl rfl ?_)
        refine g_step rfl (s_val (v_assign rfl) rfl rfl ?_)
        refine g_nil ?_
        refine g_next hK2 ?_
        refine g_cond rfl (fun _ => ?_) (fun h => by cases h)
        refine g_skip ?_
        refine g_block_normal ?_
        refine g_next hK1 ?_
        refine g_seq (fun K5 hK5 => ?_)
        refine g_region ?_
        refine g_step rfl (s_val (v_assign rfl) rfl rfl ?_)
        refine g_nil ?_
        refine g_next hK5 ?_
        refine g_ret ?_
        refine g_end1 (.inl rfl) Try.results39 (.tmp rfl) [] (ASub.refl _) (AHeap.sub_refl _) (fun p hp => by cases hp) ⟨rfl, ?_⟩
        first | (rw [decide_eq_false (p := a = b) (by rw [mg_eq]; first | omega | simp_all)]; done) | (rw [decide_eq_false (p := a = b) (by rw [mg_eq]; first | omega | simp_all)]; rfl)
      · try simp only [decide_eq_true_eq, decide_eq_false_iff_not, Bool.not_eq_true', Bool.not_eq_false', Bool.not_eq_eq_eq_not, Bool.not_true, Bool.not_false, Bool.and_eq_true, Bool.or_eq_true, Bool.or_eq_false_iff, beq_iff_eq, beq_eq_false_iff_ne, ne_eq, Int.not_lt, Int.not_le, Decidable.not_not] at hg30
        refine g_step_yes (j := 19) (t := 30) rfl rfl rfl rfl (s_fieldAddr ty30 fo30_3 ty25 rfl rfl ?_)
        refine g_step_yes (j := 19) (t := 30) rfl rfl rfl rfl (s_val (v_loadl_part (cs := [_, _]) ty25 rfl rfl rfl rfl rfl rfl) rfl rfl ?_)
        refine g_step_yes (j := 19) (t := 30) rfl rfl rfl rfl (s_fieldAddr ty30 fo30_3 ty25 rfl rfl ?_)
        refine g_step_yes (j := 19) (t := 30) rfl rfl rfl rfl (s_val (v_loadl_part (cs := [_, _]) ty25 rfl rfl rfl rfl rfl rfl) rfl rfl ?_)
        refine g_step_yes (j := 19) (t := 30) rfl rfl rfl rfl (s_val (v_st_neq (k := .i64) (l := [a.sp.lo, a.sp.hi]) (m := [b.sp.lo, b.sp.hi]) ty25 st25 rfl rfl rfl rfl st25l rfl) rfl rfl ?_)
        refine g_step rfl (s_val (v_pick_f rfl rfl) rfl rfl ?_)
        refine g_step rfl (s_val (v_assign rfl) rfl rfl ?_)
        refine g_nil ?_
        refine g_next hK2 ?_
        refine g_cond rfl (fun hc10 => ?_) (fun hc10 => ?_)
        · try simp only [decide_eq_true_eq, decide_eq_false_iff_not, Bool.not_eq_true', Bool.not_eq_false', Bool.not_eq_eq_eq_not, Bool.not_true, Bool.not_false, Bool.and_eq_true, Bool.or_eq_true, Bool.or_eq_false_iff, beq_iff_eq, beq_eq_false_iff_ne, ne_eq, Int.not_lt, Int.not_le, Decidable.not_not] at hc10
          refine g_skip ?_
          refine g_block_normal ?_
          refine g_next hK1 ?_
          refine g_seq (fun K6 hK6 => ?_)
          refine g_region ?_
          refine g_step rfl (s_val (v_assign rfl) rfl rfl ?_)
          refine g_nil ?_
          refine g_next hK6 ?_
          refine g_ret ?_
          refine g_end1 (.inl rfl) Try.results39 (.tmp rfl) [] (ASub.refl _) (AHeap.sub_refl _) (fun p hp => by cases hp) ⟨rfl, ?_⟩
          first | (rw [decide_eq_false (p := a = b) (by rw [mg_eq]; first | omega | simp_all)]; done) | (rw [decide_eq_false (p := a = b) (by rw [mg_eq]; first | omega | simp_all)]; rfl)
        · try simp only [decide_eq_true_eq, decide_eq_false_iff_not, Bool.not_eq_true', Bool.not_eq_false', Bool.not_eq_eq_eq_not, Bool.not_true, Bool.not_false, Bool.and_eq_true, Bool.or_eq_true, Bool.or_eq_false_iff, beq_iff_eq, beq_eq_false_iff_ne, ne_eq, Int.not_lt, Int.not_le, Decidable.not_not] at hc10
          refine g_seq (fun K7 hK7 => ?_)
          refine g_region ?_
          refine g_step rfl (s_fieldAddr ty30 fo30_4 ty3 rfl rfl ?_)
          refine g_step rfl (s_val (v_loadl ty3 rfl rfl rfl rfl) rfl rfl ?_)
          refine g_step rfl (s_fieldAddr ty30 fo30_4 ty3 rfl rfl ?_)
          refine g_step rfl (s_val (v_loadl ty3 rfl rfl rfl rfl) rfl rfl ?_)
          refine g_step rfl (s_val (v_neq rfl rfl) rfl rfl ?_)
          refine g_step rfl (s_val (v_move rfl) rfl rfl ?_)
          refine g_split 43 rfl (fun hg43 => ?_) (fun hg43 => ?_)
          · try simp only [decide_eq_true_eq, decide_eq_false_iff_not, Bool.not_eq_true', Bool.not_eq_false', Bool.not_eq_eq_eq_not, Bool.not_true, Bool.not_false, Bool.and_eq_true, Bool.or_eq_true, Bool.or_eq_false_iff, beq_iff_eq, beq_eq_false_iff_ne, ne_eq, Int.not_lt, Int.not_le, Decidable.not_not] at hg43
            refine g_step_no (j := 5) (t := 43) rfl rfl rfl rfl rfl rfl rfl ?_
            refine g_step_no (j := 5) (t := 43) rfl rfl rfl rfl rfl rfl rfl ?_
            refine g_step_no (j := 5) (t := 43) rfl rfl rfl rfl rfl rfl rfl ?_
            refine g_step_no (j := 5) (t := 43) rfl rfl rfl rfl rfl rfl rfl ?_
            refine g_step_no (j := 5) (t := 43) rfl rfl rfl rfl rfl rfl rfl ?_
            refine g_step rfl (s_val (v_pick_t rfl rfl) rfl rfl ?_)
            refine g_step rfl (s_val (v_move rfl) rfl rfl ?_)
            refine g_step_no (j := 12) (t := 50) rfl rfl rfl rfl rfl rfl rfl ?_
            refine g_step_no (j := 12) (t := 50) rfl rfl rfl rfl rfl rfl rfl ?_
            refine g_step_no (j := 12) (t := 50) rfl rfl rfl rfl rfl rfl rfl ?_
            refine g_step_no (j := 12) (t := 50) rfl rfl rfl rfl rfl rfl rfl ?_
            refine g_step_no (j := 12) (t := 50) rfl rfl rfl rfl rfl rfl rfl ?_
            refine g_step rfl (s_val (v_pick_t rfl rfl) rfl rfl ?_)
            refine g_step rfl (s_val (v_move rfl) rfl rfl ?_)
            refine g_step_no (j := 19) (t := 57) rfl rfl rfl rfl rfl rfl rfl ?_
            refine g_step_no (j := 19) (t := 57) rfl rfl rfl rfl rfl rfl rfl ?_
            refine g_step_no (j := 19) (t := 57) rfl rfl rfl rfl rfl rfl rfl ?_
            refine g_step_no (j := 19) (t := 57) rfl rfl rfl rfl rfl rfl rfl ?_
            refine g_step_no (j := 19) (t := 57) rfl rfl rfl rfl rfl rfl rfl ?_
            refine g_step rfl (s_val (v_pick_t rfl rfl) rfl rfl ?_)
            refine g_step rfl (s_val (v_move rfl) rfl rfl ?_)
            refine g_step_no (j := 26) (t := 64) rfl rfl rfl rfl rfl rfl rfl ?_
            refine g_step_no (j := 26) (t := 64) rfl rfl rfl rfl rfl rfl rfl ?_
            refine g_step_no (j := 26) (t := 64) rfl rfl rfl rfl rfl rfl rfl ?_
            refine g_step_no (j := 26) (t := 64) rfl rfl rfl rfl rfl rfl rfl ?_
            refine g_step_no (j := 26) (t := 64) rfl rfl rfl rfl rfl rfl rfl ?_
            refine g_step rfl (s_val (v_pick_t rfl rfl) rfl rfl ?_)
            refine g_step rfl (s_val (v_assign rfl) rfl rfl ?_)
            refine g_nil ?_
            refine g_next hK7 ?_
            first | refine g_keep [37] [2, 3] [2, 3] (keep_cons rfl keep_nil) (lkeep_cons rfl (lkeep_cons rfl lkeep_nil)) (keep_cons rfl (keep_cons rfl keep_nil)) rfl ?_ | refine g_keep [37] [2, 3] [2, 3] rfl rfl rfl rfl ?_
            refine g_cond rfl (fun _ => ?_) (fun h => by cases h)
            refine g_skip ?_
            refine g_block_normal ?_
            refine g_next hK1 ?_
            refine g_seq (fun K8 hK8 => ?_)
            refine g_region ?_
            refine g_step rfl (s_val (v_assign rfl) rfl rfl ?_)
            refine g_nil ?_
            refine g_next hK8 ?_
            refine g_ret ?_
            refine g_end1 (.inl rfl) Try.results39 (.tmp rfl) [] (ASub.refl _) (AHeap.sub_refl _) (fun p hp => by cases hp) ⟨rfl, ?_⟩
            first | (rw [decide_eq_false (p := a = b) (by rw [mg_eq]; first | omega | simp_all)]; done) | (rw [decide_eq_false (p := a = b) (by rw [mg_eq]; first | omega | simp_all)]; rfl)
          · try simp only [decide_eq_true_eq, decide_eq_false_iff_not, Bool.not_eq_true', Bool.not_eq_false', Bool.not_eq_eq_eq_not, Bool.not_true, Bool.not_false, Bool.and_eq_true, Bool.or_eq_true, Bool.or_eq_false_iff, beq_iff_eq, beq_eq_false_iff_ne, ne_eq, Int.not_lt, Int.not_le, Decidable.not_not] at hg43
            refine g_step_yes (j := 5) (t := 43) rfl rfl rfl rfl (s_fieldAddr ty30 fo30_5 ty3 rfl rfl ?_)
            refine g_step_yes (j := 5) (t := 43) rfl rfl rfl rfl (s_val (v_loadl ty3 rfl rfl rfl rfl) rfl rfl ?_)
            refine g_step_yes (j := 5) (t := 43) rfl rfl rfl rfl (s_fieldAddr ty30 fo30_5 ty3 rfl rfl ?_)
            refine g_step_yes (j := 5) (t := 43) rfl rfl rfl rfl (s_val (v_loadl ty3 rfl rfl rfl rfl) rfl rfl ?_)
            refine g_step_yes (j := 5) (t := 43) rfl rfl rfl rfl (s_val (v_neq rfl rfl) rfl rfl ?_)
            refine g_step rfl (s_val (v_pick_f rfl rfl) rfl rfl ?_)
            refine g_step rfl (s_val (v_move rfl) rfl rfl ?_)
            refine g_split 50 rfl (fun hg50 => ?_) (fun hg50 => ?_)
            · try simp only [decide_eq_true_eq, decide_eq_false_iff_not, Bool.not_eq_true', Bool.not_eq_false', Bool.not_eq_eq_eq_not, Bool.not_true, Bool.not_false, Bool.and_eq_true, Bool.or_eq_true, Bool.or_eq_false_iff, beq_iff_eq, beq_eq_false_iff_ne, ne_eq, Int.not_lt, Int.not_le, Decidable.not_not] at hg50
              refine g_step_no (j := 12) (t := 50) rfl rfl rfl rfl rfl rfl rfl ?_
              refine g_step_no (j := 12) (t := 50) rfl rfl rfl rfl rfl rfl rfl ?_
              refine g_step_no (j := 12) (t := 50) rfl rfl rfl rfl rfl rfl rfl ?_
              refine g_step_no (j := 12) (t := 50) rfl rfl rfl rfl rfl rfl rfl ?_
              refine g_step_no (j := 12) (t := 50) rfl rfl rfl rfl rfl rfl rfl ?_
              refine g_step rfl (s_val (v_pick_t rfl rfl) rfl rfl ?_)
              refine g_step rfl (s_val (v_move rfl) rfl rfl ?_)
              refine g_step_no (j := 19) (t := 57) rfl rfl rfl rfl rfl rfl rfl ?_
              refine g_step_no (j := 19) (t := 57) rfl rfl rfl rfl rfl rfl rfl ?_
              refine g_step_no (j := 19) (t := 57) rfl rfl rfl rfl rfl rfl rfl ?_
              refine g_step_no (j := 19) (t := 57) rfl rfl rfl rfl rfl rfl rfl ?_
              refine g_step_no (j := 19) (t := 57) rfl rfl rfl rfl rfl rfl rfl ?_
              refine g_step rfl (s_val (v_pick_t rfl rfl) rfl rfl ?_)
              refine g_step rfl (s_val (v_move rfl) rfl rfl ?_)
              refine g_step_no (j := 26) (t := 64) rfl rfl rfl rfl rfl rfl rfl ?_
              refine g_step_no (j := 26) (t := 64) rfl rfl rfl rfl rfl rfl rfl ?_
              refine g_step_no (j := 26) (t := 64) rfl rfl rfl rfl rfl rfl rfl ?_
              refine g_step_no (j := 26) (t := 64) rfl rfl rfl rfl rfl rfl rfl ?_
              refine g_step_no (j := 26) (t := 64) rfl rfl rfl rfl rfl rfl rfl ?_
              refine g_step rfl (s_val (v_pick_t rfl rfl) rfl rfl ?_)
              refine g_step rfl (s_val (v_assign rfl) rfl rfl ?_)
              refine g_nil ?_
              refine g_next hK7 ?_
              first | refine g_keep [37] [2, 3] [2, 3] (keep_cons rfl keep_nil) (lkeep_cons rfl (lkeep_cons rfl lkeep_nil)) (keep_cons rfl (keep_cons rfl keep_nil)) rfl ?_ | refine g_keep [37] [2, 3] [2, 3] rfl rfl rfl rfl ?_
              refine g_cond rfl (fun _ => ?_) (fun h => by cases h)
              refine g_skip ?_
              refine g_block_normal ?_
              refine g_next hK1 ?_
              refine g_seq (fun K9 hK9 => ?_)
              refine g_region ?_
              refine g_step rfl (s_val (v_assign rfl) rfl rfl ?_)
              refine g_nil ?_
              refine g_next hK9 ?_
              refine g_ret ?_
              refine g_end1 (.inl rfl) Try.results39 (.tmp rfl) [] (ASub.refl _) (AHeap.sub_refl _) (fun p hp => by cases hp) ⟨rfl, ?_⟩
              first | (rw [decide_eq_false (p := a = b) (by rw [mg_eq]; first | omega | simp_all)]; done) | (rw [decide_eq_false (p := a = b) (by rw [mg_eq]; first | omega | simp_all)]; rfl)
            · try simp only [decide_eq_true_eq, decide_eq_false_iff_not, Bool.not_eq_true', Bool.not_eq_false', Bool.not_eq_eq_eq_not, Bool.not_true, Bool.not_false, Bool.and_eq_true, Bool.or_eq_true, Bool.or_eq_false_iff, beq_iff_eq, beq_eq_false_iff_ne, ne_eq, Int.not_lt, Int.not_le, Decidable.not_not] at hg50
              refine g_step_yes (j := 12) (t := 50) rfl rfl rfl rfl (s_fieldAddr ty30 fo30_6 ty3 rfl rfl ?_)
              refine g_step_yes (j := 12) (t := 50) rfl rfl rfl rfl (s_val (v_loadl ty3 rfl rfl rfl rfl) rfl rfl ?_)
              refine g_step_yes (j := 12) (t := 50) rfl rfl rfl rfl (s_fieldAddr ty30 fo30_6 ty3 rfl rfl ?_)
              refine g_step_yes (j := 12) (t := 50) rfl rfl rfl rfl (s_val (v_loadl ty3 rfl rfl rfl rfl) rfl rfl ?_)
              refine g_step_yes (j := 12) (t := 50) rfl rfl rfl rfl (s_val (v_neq rfl rfl) rfl rfl ?_)
              refine g_step rfl (s_val (v_pick_f rfl rfl) rfl rfl ?_)
              refine g_step rfl (s_val (v_move rfl) rfl rfl ?_)
              refine g_split 57 rfl (fun hg57 => ?_) (fun hg57 => ?_)
              · try simp only [decide_eq_true_eq, decide_eq_false_iff_not, Bool.not_eq_true', Bool.not_eq_false', Bool.not_eq_eq_eq_not, Bool.not_true, Bool.not_false, Bool.and_eq_true, Bool.or_eq_true, Bool.or_eq_false_iff, beq_iff_eq, beq_eq_false_iff_ne, ne_eq, Int.not_lt, Int.not_le, Decidable.not_not] at hg57
                refine g_step_no (j := 19) (t := 57) rfl rfl rfl rfl rfl rfl rfl ?_
                refine g_step_no (j := 19) (t := 57) rfl rfl rfl rfl rfl rfl rfl ?_
                refine g_step_no (j := 19) (t := 57) rfl rfl rfl rfl rfl rfl rfl ?_
                refine g_step_no (j := 19) (t := 57) rfl rfl rfl rfl rfl rfl rfl ?_
                refine g_step_no (j := 19) (t := 57) rfl rfl rfl rfl rfl rfl rfl ?_
                refine g_step rfl (s_val (v_pick_t rfl rfl) rfl rfl ?_)
                refine g_step rfl (s_val (v_move rfl) rfl rfl ?_)
                refine g_step_no (j := 26) (t := 64) rfl rfl rfl rfl rfl rfl rfl ?_
                refine g_step_no (j := 26) (t := 64) rfl rfl rfl rfl rfl rfl rfl ?_
                refine g_step_no (j := 26) (t := 64) rfl rfl rfl rfl rfl rfl rfl ?_
                refine g_step_no (j := 26) (t := 64) rfl rfl rfl rfl rfl rfl rfl ?_
                refine g_step_no (j := 26) (t := 64) rfl rfl rfl rfl rfl rfl rfl ?_
                refine g_step rfl (s_val (v_pick_t rfl rfl) rfl rfl ?_)
                refine g_step rfl (s_val (v_assign rfl) rfl rfl ?_)
                refine g_nil ?_
                refine g_next hK7 ?_
                first | refine g_keep [37] [2, 3] [2, 3] (keep_cons rfl keep_nil) (lkeep_cons rfl (lkeep_cons rfl lkeep_nil)) (keep_cons rfl (keep_cons rfl keep_nil)) rfl ?_ | refine g_keep [37] [2, 3] [2, 3] rfl rfl rfl rfl ?_
                refine g_cond rfl (fun _ => ?_) (fun h => by cases h)
                refine g_skip ?_
                refine g_block_normal ?_
                refine g_next hK1 ?_
                refine g_seq (fun K10 hK10 => ?_)
                refine g_region ?_
                refine g_step rfl (s_val (v_assign rfl) rfl rfl ?_)
                refine g_nil ?_
                refine g_next hK10 ?_
                refine g_ret ?_
                refine g_end1 (.inl rfl) Try.results39 (.tmp rfl) [] (ASub.refl _) (AHeap.sub_refl _) (fun p hp => by cases hp) ⟨rfl, ?_⟩
                first | (rw [decide_eq_false (p := a = b) (by rw [mg_eq]; first | omega | simp_all)]; done) | (rw [decide_eq_false (p := a = b) (by rw [mg_eq]; first | omega | simp_all)]; rfl)
              · try simp only [decide_eq_true_eq, decide_eq_false_iff_not, Bool.not_eq_true', Bool.not_eq_false', Bool.not_eq_eq_eq_not, Bool.not_true, Bool.not_false, Bool.and_eq_true, Bool.or_eq_true, Bool.or_eq_false_iff, beq_iff_eq, beq_eq_false_iff_ne, ne_eq, Int.not_lt, Int.not_le, Decidable.not_not] at hg57
                refine g_step_yes (j := 19) (t := 57) rfl rfl rfl rfl (s_fieldAddr ty30 fo30_7 ty3 rfl rfl ?_)
                refine g_step_yes (j := 19) (t := 57) rfl rfl rfl rfl (s_val (v_loadl ty3 rfl rfl rfl rfl) rfl rfl ?_)
                refine g_step_yes (j := 19) (t := 57) rfl rfl rfl rfl (s_fieldAddr ty30 fo30_7 ty3 rfl rfl ?_)
                refine g_step_yes (j := 19) (t := 57) rfl rfl rfl rfl (s_val (v_loadl ty3 rfl rfl rfl rfl) rfl rfl ?_)
                refine g_step_yes (j := 19) (t := 57) rfl rfl rfl rfl (s_val (v_neq rfl rfl) rfl rfl ?_)
                refine g_step rfl (s_val (v_pick_f rfl rfl) rfl rfl ?_)
                refine g_step rfl (s_val (v_move rfl) rfl rfl ?_)
                refine g_split 64 rfl (fun hg64 => ?_) (fun hg64 => ?_)
                · try simp only [decide_eq_true_eq, decide_eq_false_iff_not, Bool.not_eq_true', Bool.not_eq_false', Bool.not_eq_eq_eq_not, Bool.not_true, Bool.not_false, Bool.and_eq_true, Bool.or_eq_true, Bool.or_eq_false_iff, beq_iff_eq, beq_eq_false_iff_ne, ne_eq, Int.not_lt, Int.not_le, Decidable.not_not] at hg64
                  refine g_step_no (j := 26) (t := 64) rfl rfl rfl rfl rfl rfl rfl ?_
                  refine g_step_no (j := 26) (t := 64) rfl rfl rfl rfl rfl rfl rfl ?_
                  refine g_step_no (j := 26) (t := 64) rfl rfl rfl rfl rfl rfl rfl ?_
                  refine g_step_no (j := 26) (t := 64) rfl rfl rfl rfl rfl rfl rfl ?_
                  refine g_step_no (j := 26) (t := 64) rfl rfl rfl rfl rfl rfl rfl ?_
                  refine g_step rfl (s_val (v_pick_t rfl rfl) rfl rfl ?_)
                  refine g_step rfl (s_val (v_assign rfl) rfl rfl ?_)
                  refine g_nil ?_
                  refine g_next hK7 ?_
                  first | refine g_keep [37] [2, 3] [2, 3] (keep_cons rfl keep_nil) (lkeep_cons rfl (lkeep_cons rfl lkeep_nil)) (keep_cons rfl (keep_cons rfl keep_nil)) rfl ?_ | refine g_keep [37] [2, 3] [2, 3] rfl rfl rfl rfl ?_
                  refine g_cond rfl (fun _ => ?_) (fun h => by cases h)
                  refine g_skip ?_
                  refine g_block_normal ?_
                  refine g_next hK1 ?_
                  refine g_seq (fun K11 hK11 => ?_)
                  refine g_region ?_
                  refine g_step rfl (s_val (v_assign rfl) rfl rfl ?_)
                  refine g_nil ?_
                  refine g_next hK11 ?_
                  refine g_ret ?_
                  refine g_end1 (.inl rfl) Try.results39 (.tmp rfl) [] (ASub.refl _) (AHeap.sub_refl _) (fun p hp => by cases hp) ⟨rfl, ?_⟩
                  first | (rw [decide_eq_false (p := a = b) (by rw [mg_eq]; first | omega | simp_all)]; done) | (rw [decide_eq_false (p := a = b) (by rw [mg_eq]; first | omega | simp_all)]; rfl)
                · try simp only [decide_eq_true_eq, decide_eq_false_iff_not, Bool.not_eq_true', Bool.not_eq_false', Bool.not_eq_eq_eq_not, Bool.not_true, Bool.not_false, Bool.and_eq_true, Bool.or_eq_true, Bool.or_eq_false_iff, beq_iff_eq, beq_eq_false_iff_ne, ne_eq, Int.not_lt, Int.not_le, Decidable.not_not] at hg64
                  refine g_step_yes (j := 26) (t := 64) rfl rfl rfl rfl (s_fieldAddr ty30 fo30_8 ty3 rfl rfl ?_)
                  refine g_step_yes (j := 26) (t := 64) rfl rfl rfl rfl (s_val (v_loadl ty3 rfl rfl rfl rfl) rfl rfl ?_)
                  refine g_step_yes (j := 26) (t := 64) rfl rfl rfl rfl (s_fieldAddr ty30 fo30_8 ty3 rfl rfl ?_)
                  refine g_step_yes (j := 26) (t := 64) rfl rfl rfl rfl (s_val (v_loadl ty3 rfl rfl rfl rfl) rfl rfl ?_)
                  refine g_step_yes (j := 26) (t := 64) rfl rfl rfl rfl (s_val (v_neq rfl rfl) rfl rfl ?_)
                  refine g_step rfl (s_val (v_pick_f rfl rfl) rfl rfl ?_)
                  refine g_step rfl (s_val (v_assign rfl) rfl rfl ?_)
                  refine g_nil ?_
                  refine g_next hK7 ?_
                  first | refine g_keep [37] [2, 3] [2, 3] (keep_cons rfl keep_nil) (lkeep_cons rfl (lkeep_cons rfl lkeep_nil)) (keep_cons rfl (keep_cons rfl keep_nil)) rfl ?_ | refine g_keep [37] [2, 3] [2, 3] rfl rfl rfl rfl ?_
                  refine g_cond rfl (fun hc37 => ?_) (fun hc37 => ?_)
                  · try simp only [decide_eq_true_eq, decide_eq_false_iff_not, Bool.not_eq_true', Bool.not_eq_false', Bool.not_eq_eq_eq_not, Bool.not_true, Bool.not_false, Bool.and_eq_true, Bool.or_eq_true, Bool.or_eq_false_iff, beq_iff_eq, beq_eq_false_iff_ne, ne_eq, Int.not_lt, Int.not_le, Decidable.not_not] at hc37
                    refine g_skip ?_
                    refine g_block_normal ?_
                    refine g_next hK1 ?_
                    refine g_seq (fun K12 hK12 => ?_)
                    refine g_region ?_
                    refine g_step rfl (s_val (v_assign rfl) rfl rfl ?_)
                    refine g_nil ?_
                    refine g_next hK12 ?_
                    refine g_ret ?_
                    refine g_end1 (.inl rfl) Try.results39 (.tmp rfl) [] (ASub.refl _) (AHeap.sub_refl _) (fun p hp => by cases hp) ⟨rfl, ?_⟩
                    first | (rw [decide_eq_false (p := a = b) (by rw [mg_eq]; first | omega | simp_all)]; done) | (rw [decide_eq_false (p := a = b) (by rw [mg_eq]; first | omega | simp_all)]; rfl)
                  · try simp only [decide_eq_true_eq, decide_eq_false_iff_not, Bool.not_eq_true', Bool.not_eq_false', Bool.not_eq_eq_eq_not, Bool.not_true, Bool.not_false, Bool.and_eq_true, Bool.or_eq_true, Bool.or_eq_false_iff, beq_iff_eq, beq_eq_false_iff_ne, ne_eq, Int.not_lt, Int.not_le, Decidable.not_not] at hc37
                    refine g_seq (fun K13 hK13 => ?_)
                    refine g_region ?_
                    refine g_step rfl (s_fieldAddr ty30 fo30_9 ty23 rfl rfl ?_)
                    refine g_step rfl (s_val (v_loadl ty23 rfl rfl rfl rfl) rfl rfl ?_)
                    refine g_step rfl (s_fieldAddr ty30 fo30_9 ty23 rfl rfl ?_)
                    refine g_step rfl (s_val (v_loadl ty23 rfl rfl rfl rfl) rfl rfl ?_)
                    refine g_step rfl (s_callp rfl rfl rfl (equal_ok a.recs b.recs _ _ _ rfl rfl (by omega) hs) ?_)
                    rintro _ rfl
                    refine g_step rfl (s_val (v_assign rfl) rfl rfl ?_)
                    refine g_nil ?_
                    refine g_next hK13 ?_
                    refine g_ret ?_
                    refine g_block_ret ?_
                    refine g_then_ret ?_
                    refine g_end1 (.inl rfl) Try.results39 (.tmp rfl) [] (ASub.refl _) (AHeap.sub_refl _) (fun p hp => by cases hp) ⟨rfl, ?_⟩
                    first | (first | (rw [decide_eq_false (p := a = b) (by rw [mg_eq]; first | omega | (simp_all; done))]; rfl) | exact congrArg AV.bool (decide_eq_decide.2 (by rw [mg_eq]; simp_all)); done) | (first | (rw [decide_eq_false (p := a = b) (by rw [mg_eq]; first | omega | (simp_all; done))]; rfl) | exact congrArg AV.bool (decide_eq_decide.2 (by rw [mg_eq]; simp_all)); rfl)

theorem malike_ok (a b : Mg) (G : AHeap) (hl : a.recs.length ≤ 100000) (hs : ∀ x ∈ a.recs, Small x.bag) : PCalls Try.prog 38 [encM a, encM b] G (fun r => r = .bool (decide (a = b))) := by
  refine LCalls.intro 82 fi38 rfl Try.ntmps38 rfl (fun _ h => h.elim) (fun H hH w0 hw0 => ?_)
  refine g_seq (fun K0 hK0 => ?_)
  refine g_region ?_
  refine g_step rfl (s_box rfl rfl rfl rfl ?_)
  refine g_step rfl (s_box rfl rfl rfl rfl ?_)
  refine g_step rfl (s_val (v_assign rfl) rfl rfl ?_)
  refine g_nil ?_
  refine g_next hK0 ?_
  refine g_seq (fun K1 hK1 => ?_)
  refine g_seq (fun K2 hK2 => ?_)
  refine g_region ?_
  refine g_step rfl (s_fieldAddr ty30 fo30_0 ty3 rfl rfl ?_)
  refine g_step rfl (s_val (v_loadl ty3 rfl rfl rfl rfl) rfl rfl ?_)
  refine g_step rfl (s_fieldAddr ty30 fo30_0 ty3 rfl rfl ?_)
  refine g_step rfl (s_val (v_loadl ty3 rfl rfl rfl rfl) rfl rfl ?_)
  refine g_step rfl (s_val (v_neq rfl rfl) rfl rfl ?_)
  refine g_step rfl (s_val (v_move rfl) rfl rfl ?_)
  refine g_split 10 rfl (fun hg10 => ?_) (fun hg10 => ?_)
  · try simp only [decide_eq_true_eq, decide_eq_false_iff_not, Bool.not_eq_true', Bool.not_eq_false', Bool.not_eq_eq_eq_not, Bool.not_true, Bool.not_false, Bool.and_eq_true, Bool.or_eq_true, Bool.or_eq_false_iff, beq_iff_eq, beq_eq_false_iff_ne, ne_eq, Int.not_lt, Int.not_le, Decidable.not_not] at hg10
    refine g_step_no (j := 5) (t := 10) rfl rfl rfl rfl rfl rfl rfl ?_
    refine g_step_no (j := 5) (t := 10) rfl rfl rfl rfl rfl rfl rfl ?_
    refine g_step_no (j := 5) (t := 10) rfl rfl rfl rfl rfl rfl rfl ?_
    refine g_step_no (j := 5) (t := 10) rfl rfl rfl rfl rfl rfl rfl ?_
    refine g_step_no (j := 5) (t := 10) rfl rfl rfl rfl rfl rfl rfl ?_
    refine g_step rfl (s_val (v_pick_t rfl rfl) rfl rfl ?_)
    refine g_step rfl (s_val (v_move rfl) rfl rfl ?_)
    refine g_step_no (j := 12) (t := 17) rfl rfl rfl rfl rfl rfl rfl ?_
    refine g_step_no (j := 12) (t := 17) rfl rfl rfl rfl rfl rfl rfl ?_
    refine g_step_no (j := 12) (t := 17) rfl rfl rfl rfl rfl rfl rfl ?_
    refine g_step_no (j := 12) (t := 17) rfl rfl rfl rfl rfl rfl rfl ?_
    refine g_step_no (j := 12) (t := 17) rfl rfl rfl rfl rfl rfl rfl ?_
    refine g_step rfl (s_val (v_pick_t rfl rfl) rfl rfl ?_)
    refine g_step rfl (s_val (v_move rfl) rfl rfl ?_)
    refine g_step_no (j := 19) (t := 24) rfl rfl rfl rfl rfl rfl rfl ?_
    refine g_step_no (j := 19) (t := 24) rfl rfl rfl rfl rfl rfl rfl ?_
    refine g_step_no (j := 19) (t := 24) rfl rfl rfl rfl rfl rfl rfl ?_
    refine g_step_no (j := 19) (t := 24) rfl rfl rfl rfl rfl rfl rfl ?_
    refine g_step_no (j := 19) (t := 24) rfl rfl rfl rfl rfl rfl rfl ?_
    refine g_step_no (j := 19) (t := 24) rfl rfl rfl rfl rfl rfl rfl ?_
    refine g_step_no (j := 19) (t := 24) rfl rfl rfl rfl rfl rfl rfl ?_
    refine g_step rfl (s_val (v_pick_t rfl rfl) rfl rfl ?_)
    refine g_step rfl (s_val (v_move rfl) rfl rfl ?_)
    refine g_step_no (j := 28) (t := 33) rfl rfl rfl rfl rfl rfl rfl ?_
    refine g_step_no (j := 28) (t := 33) rfl rfl rfl rfl rfl rfl rfl ?_
    refine g_step_no (j := 28) (t := 33) rfl rfl rfl rfl rfl rfl rfl ?_
    refine g_step_no (j := 28) (t := 33) rfl rfl rfl rfl rfl rfl rfl ?_
    refine g_step_no (j := 28) (t := 33) rfl rfl rfl rfl rfl rfl rfl ?_
    refine g_step_no (j := 28) (t := 33) rfl rfl rfl rfl rfl rfl rfl ?_
    refine g_step_no (j := 28) (t := 33) rfl rfl rfl rfl rfl rfl rfl ?_
    refine g_step rfl (s_val (v_pick_t rfl rfl) rfl rfl ?_)
    refine g_step rfl (s_val (v_move rfl) rfl rfl ?_)
    refine g_step_no (j := 37) (t := 42) rfl rfl rfl rfl rfl rfl rfl ?_
    refine g_step_no (j := 37) (t := 42) rfl rfl rfl rfl rfl rfl rfl ?_
    refine g_step_no (j := 37) (t := 42) rfl rfl rfl rfl rfl rfl rfl ?_
    refine g_step_no (j := 37) (t := 42) rfl rfl rfl rfl rfl rfl rfl ?_
    refine g_step_no (j := 37) (t := 42) rfl rfl rfl rfl rfl rfl rfl ?_
    refine g_step rfl (s_val (v_pick_t rfl rfl) rfl rfl ?_)
    refine g_step rfl (s_val (v_move rfl) rfl rfl ?_)
    refine g_step_no (j := 44) (t := 49) rfl rfl rfl rfl rfl rfl rfl ?_
    refine g_step_no (j := 44) (t := 49) rfl rfl rfl rfl rfl rfl rfl ?_
    refine g_step_no (j := 44) (t := 49) rfl rfl rfl rfl rfl rfl rfl ?_
    refine g_step_no (j := 44) (t := 49) rfl rfl rfl rfl rfl rfl rfl ?_
    refine g_step_no (j := 44) (t := 49) rfl rfl rfl rfl rfl rfl rfl ?_
    refine g_step rfl (s_val (v_pick_t rfl rfl) rfl rfl ?_)
    refine g_nil ?_
    refine g_next hK2 ?_
    first | refine g_keep [55] [2, 3] [2, 3] (keep_cons rfl keep_nil) (lkeep_cons rfl (lkeep_cons rfl lkeep_nil)) (keep_cons rfl (keep_cons rfl keep_nil)) rfl ?_ | refine g_keep [55] [2, 3] [2, 3] rfl rfl rfl rfl ?_
    refine g_cond rfl (fun _ => ?_) (fun h => by cases h)
    refine g_seq (fun K3 hK3 => ?_)
    refine g_region ?_
    refine g_step rfl (s_val (v_assign rfl) rfl rfl ?_)
    refine g_nil ?_
    refine g_next hK3 ?_
    refine g_ret ?_
    refine g_then_ret ?_
    refine g_end1 (.inl rfl) Try.results38 (.tmp rfl) [] (ASub.refl _) (AHeap.sub_refl _) (fun p hp => by cases hp) ⟨rfl, ?_⟩
    first | (rw [decide_eq_false (p := a = b) (by rw [mg_eq]; first | omega | simp_all)]; done) | (rw [decide_eq_false (p := a = b) (by rw [mg_eq]; first | omega | simp_all)]; rfl)
  · try simp only [decide_eq_true_eq, decide_eq_false_iff_not, Bool.not_eq_true', Bool.not_eq_false', Bool.not_eq_eq_eq_not, Bool.not_true, Bool.not_false, Bool.and_eq_true, Bool.or_eq_true, Bool.or_eq_false_iff, beq_iff_eq, beq_eq_false_iff_ne, ne_eq, Int.not_lt, Int.not_le, Decidable.not_not] at hg10
    refine g_step_yes (j := 5) (t := 10) rfl rfl rfl rfl (s_fieldAddr ty30 fo30_1 ty3 rfl rfl ?_)
    refine g_step_yes (j := 5) (t := 10) rfl rfl rfl rfl (s_val (v_loadl ty3 rfl rfl rfl rfl) rfl rfl ?_)
    refine g_step_yes (j := 5) (t := 10) rfl rfl rfl rfl (s_fieldAddr ty30 fo30_1 ty3 rfl rfl ?_)
    refine g_step_yes (j := 5) (t := 10) rfl rfl rfl rfl (s_val (v_loadl ty3 rfl rfl rfl rfl) rfl rfl ?_)
    refine g_step_yes (j := 5) (t := 10) rfl rfl rfl rfl (s_val (v_neq rfl rfl) rfl rfl ?_)
    refine g_step rfl (s_val (v_pick_f rfl rfl) rfl rfl ?_)
    refine g_step rfl (s_val (v_move rfl) rfl rfl ?_)
    refine g_split 17 rfl (fun hg17 => ?_) (fun hg17 => ?_)
    · try simp only [decide_eq_true_eq, decide_eq_false_iff_not, Bool.not_eq_true', Bool.not_eq_false', Bool.not_eq_eq_eq_not, Bool.not_true, Bool.not_false, Bool.and_eq_true, Bool.or_eq_true, Bool.or_eq_false_iff, beq_iff_eq, beq_eq_false_iff_ne, ne_eq, Int.not_lt, Int.not_le, Decidable.not_not] at hg17
      refine g_step_no (j := 12) (t := 17) rfl rfl rfl rfl rfl rfl rfl ?_
      refine g_step_no (j := 12) (t := 17) rfl rfl rfl rfl rfl rfl rfl ?_
      refine g_step_no (j := 12) (t := 17) rfl rfl rfl rfl rfl rfl rfl ?_
      refine g_step_no (j := 12) (t := 17) rfl rfl rfl rfl rfl rfl rfl ?_
      refine g_step_no (j := 12) (t := 17) rfl rfl rfl rfl rfl rfl rfl ?_
      refine g_step rfl (s_val (v_pick_t rfl rfl) rfl rfl ?_)
      refine g_step rfl (s_val (v_move rfl) rfl rfl ?_)
      refine g_step_no (j := 19) (t := 24) rfl rfl rfl rfl rfl rfl rfl ?_
      refine g_step_no (j := 19) (t := 24) rfl rfl rfl rfl rfl rfl rfl ?_
      refine g_step_no (j := 19) (t := 24) rfl rfl rfl rfl rfl rfl rfl ?_
      refine g_step_no (j := 19) (t := 24) rfl rfl rfl rfl rfl rfl rfl ?_
      refine g_step_no (j := 19) (t := 24) rfl rfl rfl rfl rfl rfl rfl ?_
      refine g_step_no (j := 19) (t := 24) rfl rfl rfl rfl rfl rfl rfl ?_
      refine g_step_no (j := 19) (t := 24) rfl rfl rfl rfl rfl rfl rfl ?_
      refine g_step rfl (s_val (v_pick_t rfl rfl) rfl rfl ?_)
      refine g_step rfl (s_val (v_move rfl) rfl rfl ?_)
      refine g_step_no (j := 28) (t := 33) rfl rfl rfl rfl rfl rfl rfl ?_
      refine g_step_no (j := 28) (t := 33) rfl rfl rfl rfl rfl rfl rfl ?_
      refine g_step_no (j := 28) (t := 33) rfl rfl rfl rfl rfl rfl rfl ?_
      refine g_step_no (j := 28) (t := 33) rfl rfl rfl rfl rfl rfl rfl ?_
      refine g_step_no (j := 28) (t := 33) rfl rfl rfl rfl rfl rfl rfl ?_
      refine g_step_no (j := 28) (t := 33) rfl rfl rfl rfl rfl rfl rfl ?_
      refine g_step_no (j := 28) (t := 33) rfl rfl rfl rfl rfl rfl rfl ?_
      refine g_step rfl (s_val (v_pick_t rfl rfl) rfl rfl ?_)
      refine g_step rfl (s_val (v_move rfl) rfl rfl ?_)
      refine g_step_no (j := 37) (t := 42) rfl rfl rfl rfl rfl rfl rfl ?_
      refine g_step_no (j := 37) (t := 42) rfl rfl rfl rfl rfl rfl rfl ?_
      refine g_step_no (j := 37) (t := 42) rfl rfl rfl rfl rfl rfl rfl ?_
      refine g_step_no (j := 37) (t := 42) rfl rfl rfl rfl rfl rfl rfl ?_
      refine g_step_no (j := 37) (t := 42) rfl rfl rfl rfl rfl rfl rfl ?_
      refine g_step rfl (s_val (v_pick_t rfl rfl) rfl rfl ?_)
      refine g_step rfl (s_val (v_move rfl) rfl rfl ?_)
      refine g_step_no (j := 44) (t := 49) rfl rfl rfl rfl rfl rfl rfl ?_
      refine g_step_no (j := 44) (t := 49) rfl rfl rfl rfl rfl rfl rfl ?_
      refine g_step_no (j := 44) (t := 49) rfl rfl rfl rfl rfl rfl rfl ?_
      refine g_step_no (j := 44) (t := 49) rfl rfl rfl rfl rfl rfl rfl ?_
      refine g_step_no (j := 44) (t := 49) rfl rfl rfl rfl rfl rfl rfl ?_
      refine g_step rfl (s_val (v_pick_t rfl rfl) rfl rfl ?_)
      refine g_nil ?_
      refine g_next hK2 ?_
      first | refine g_keep [55] [2, 3] [2, 3] (keep_cons rfl keep_nil) (lkeep_cons rfl (lkeep_cons rfl lkeep_nil)) (keep_cons rfl (keep_cons rfl keep_nil)) rfl ?_ | refine g_keep [55] [2, 3] [2, 3] rfl rfl rfl rfl ?_
      refine g_cond rfl (fun _ => ?_) (fun h => by cases h)
      refine g_seq (fun K4 hK4 => ?_)
      refine g_region ?_
      refine g_step rfl (s_val (v_assign rfl) rfl rfl ?_)
      refine g_nil ?_
      refine g_next hK4 ?_
      refine g_ret ?_
      refine g_then_ret ?_
      refine g_end1 (.inl rfl) Try.results38 (.tmp rfl) [] (ASub.refl _) (AHeap.sub_refl _) (fun p hp => by cases hp) ⟨rfl, ?_⟩
      first | (rw [decide_eq_false (p := a = b) (by rw [mg_eq]; first | omega | simp_all)]; done) | (rw [decide_eq_false (p := a = b) (by rw [mg_eq]; first | omega | simp_all)]; rfl)
    · try simp only [decide_eq_true_eq, decide_eq_false_iff_not, Bool.not_eq_true', Bool.not_eq_false', Bool.not_eq_eq_eq_not, Bool.not_true, Bool.not_false, Bool.and_eq_true, Bool.or_eq_true, Bool.or_eq_false_iff, beq_iff_eq, beq_eq_false_iff_ne, ne_eq, Int.not_lt, Int.not_le, Decidable.not_not] at hg17
      refine g_step_yes (j := 12) (t := 17) rfl rfl rfl rfl (s_fieldAddr ty30 fo30_2 ty3 rfl rfl ?_)
      refine g_step_yes (j := 12) (t := 17) rfl rfl rfl rfl (s_val (v_loadl ty3 rfl rfl rfl rfl) rfl rfl ?_)
      refine g_step_yes (j := 12) (t := 17) rfl rfl rfl rfl (s_fieldAddr ty30 fo30_2 ty3 rfl rfl ?_)
      refine g_step_yes (j := 12) (t := 17) rfl rfl rfl rfl (s_val (v_loadl ty3 rfl rfl rfl rfl) rfl rfl ?_)
      refine g_step_yes (j := 12) (t := 17) rfl rfl rfl rfl (s_val (v_neq rfl rfl) rfl rfl ?_)
      refine g_step rfl (s_val (v_pick_f rfl rfl) rfl rfl ?_)
      refine g_step rfl (s_val (v_move rfl) rfl rfl ?_)
      refine g_split 24 rfl (fun hg24 => ?_) (fun hg24 => ?_)
      · try simp only [decide_eq_true_eq, decide_eq_false_iff_not, Bool.not_eq_true', Bool.not_eq_false', Bool.not_eq_eq_eq_not, Bool.not_true, Bool.not_false, Bool.and_eq_true, Bool.or_eq_true, Bool.or_eq_false_iff, beq_iff_eq, beq_eq_false_iff_ne, ne_eq, Int.not_lt, Int.not_le, Decidable.not_not] at hg24
        refine g_step_no (j := 19) (t := 24) rfl rfl rfl rfl rfl rfl rfl ?_
        refine g_step_no (j := 19) (t := 24) rfl rfl rfl rfl rfl rfl rfl ?_
        refine g_step_no (j := 19) (t := 24) rfl rfl rfl rfl rfl rfl rfl ?_
        refine g_step_no (j := 19) (t := 24) rfl rfl rfl rfl rfl rfl rfl ?_
        refine g_step_no (j := 19) (t := 24) rfl rfl rfl rfl rfl rfl rfl ?_
        refine g_step_no (j := 19) (t := 24) rfl rfl rfl rfl rfl rfl rfl ?_
        refine g_step_no (j := 19) (t := 24) rfl rfl rfl rfl rfl rfl rfl ?_
        refine g_step rfl (s_val (v_pick_t rfl rfl) rfl rfl ?_)
        refine g_step rfl (s_val (v_move rfl) rfl rfl ?_)
        refine g_step_no (j := 28) (t := 33) rfl rfl rfl rfl rfl rfl rfl ?_
        refine g_step_no (j := 28) (t := 33) rfl rfl rfl rfl rfl rfl rfl ?_
        refine g_step_no (j := 28) (t := 33) rfl rfl rfl rfl rfl rfl rfl ?_
        refine g_step_no (j := 28) (t := 33) rfl rfl rfl rfl rfl rfl rfl ?_
        refine g_step_no (j := 28) (t := 33) rfl rfl rfl rfl rfl rfl rfl ?_
        refine g_step_no (j := 28) (t := 33) rfl rfl rfl rfl rfl rfl rfl ?_
        refine g_step_no (j := 28) (t := 33) rfl rfl rfl rfl rfl rfl rfl ?_
        refine g_step rfl (s_val (v_pick_t rfl rfl) rfl rfl ?_)
        refine g_step rfl (s_val (v_move rfl) rfl rfl ?_)
        refine g_step_no (j := 37) (t := 42) rfl rfl rfl rfl rfl rfl rfl ?_
        refine g_step_no (j := 37) (t := 42) rfl rfl rfl rfl rfl rfl rfl ?_
        refine g_step_no (j := 37) (t := 42) rfl rfl rfl rfl rfl rfl rfl ?_
        refine g_step_no (j := 37) (t := 42) rfl rfl rfl rfl rfl rfl rfl ?_
        refine g_step_no (j := 37) (t := 42) rfl rfl rfl rfl rfl rfl rfl ?_
        refine g_step rfl (s_val (v_pick_t rfl rfl) rfl rfl ?_)
        refine g_step rfl (s_val (v_move rfl) rfl rfl ?_)
        refine g_step_no (j := 44) (t := 49) rfl rfl rfl rfl rfl rfl rfl ?_
        refine g_step_no (j := 44) (t := 49) rfl rfl rfl rfl rfl rfl rfl ?_
        refine g_step_no (j := 44) (t := 49) rfl rfl rfl rfl rfl rfl rfl ?_
        refine g_step_no (j := 44) (t := 49) rfl rfl rfl rfl rfl rfl rfl ?_
        refine g_step_no (j := 44) (t := 49) rfl rfl rfl rfl rfl rfl rfl ?_
        refine g_step rfl (s_val (v_pick_t rfl rfl) rfl rfl ?_)
        refine g_nil ?_
        refine g_next hK2 ?_
        first | refine g_keep [55] [2, 3] [2, 3] (keep_cons rfl keep_nil) (lkeep_cons rfl (lkeep_cons rfl lkeep_nil)) (keep_cons rfl (keep_cons rfl keep_nil)) rfl ?_ | refine g_keep [55] [2, 3] [2, 3] rfl rfl rfl rfl ?_
        refine g_cond rfl (fun _ => ?_) (fun h => by cases h)
        refine g_seq (fun K5 hK5 => ?_)
        refine g_region ?_
        refine g_step rfl (s_val (v_assign rfl) rfl rfl ?_)
        refine g_nil ?_
        refine g_next hK5 ?_
        refine g_ret ?_
        refine g_then_ret ?_
        refine g_end1 (.inl rfl) Try.results38 (.tmp rfl) [] (ASub.refl _) (AHeap.sub_refl _) (fun p hp => by cases hp) ⟨rfl, ?_⟩
        first | (rw [decide_eq_false (p := a = b) (by rw [mg_eq]; first | omega | simp_all)]; done) | (rw [decide_eq_false (p := a = b) (by rw [mg_eq]; first | omega | simp_all)]; rfl)
      · try simp only [decide_eq_true_eq, decide_eq_false_iff_not, Bool.not_eq_true', Bool.not_eq_false', Bool.not_eq_eq_eq_not, Bool.not_true, Bool.not_false, Bool.and_eq_true, Bool.or_eq_true, Bool.or_eq_false_iff, beq_iff_eq, beq_eq_false_iff_ne, ne_eq, Int.not_lt, Int.not_le, Decidable.not_not] at hg24
        refine g_step_yes (j := 19) (t := 24) rfl rfl rfl rfl (s_fieldAddr ty30 fo30_3 ty25 rfl rfl ?_)
        refine g_step_yes (j := 19) (t := 24) rfl rfl rfl rfl (s_fieldAddr ty25 fo25_0 ty3 rfl rfl ?_)
        refine g_step_yes (j := 19) (t := 24) rfl rfl rfl rfl (s_val (v_loadl ty3 rfl rfl rfl rfl) rfl rfl ?_)
        refine g_step_yes (j := 19) (t := 24) rfl rfl rfl rfl (s_fieldAddr ty30 fo30_3 ty25 rfl rfl ?_)
        refine g_step_yes (j := 19) (t := 24) rfl rfl rfl rfl (s_fieldAddr ty25 fo25_0 ty3 rfl rfl ?_)
        refine g_step_yes (j := 19) (t := 24) rfl rfl rfl rfl (s_val (v_loadl ty3 rfl rfl rfl rfl) rfl rfl ?_)
        refine g_step_yes (j := 19) (t := 24) rfl rfl rfl rfl (s_val (v_neq rfl rfl) rfl rfl ?_)
        refine g_step rfl (s_val (v_pick_f rfl rfl) rfl rfl ?_)
        refine g_step rfl (s_val (v_move rfl) rfl rfl ?_)
        refine g_split 33 rfl (fun hg33 => ?_) (fun hg33 => ?_)
        · try simp only [decide_eq_true_eq, decide_eq_false_iff_not, Bool.not_eq_true', Bool.not_eq_false', Bool.not_eq_eq_eq_not, Bool.not_true, Bool.not_false, Bool.and_eq_true, Bool.or_eq_true, Bool.or_eq_false_iff, beq_iff_eq, beq_eq_false_iff_ne, ne_eq, Int.not_lt, Int.not_le, Decidable.not_not] at hg33
          refine g_step_no (j := 28) (t := 33) rfl rfl rfl rfl rfl rfl rfl ?_
          refine g_step_no (j := 28) (t := 33) rfl rfl rfl rfl rfl rfl rfl ?_
          refine g_step_no (j := 28) (t := 33) rfl rfl rfl rfl rfl rfl rfl ?_
          refine g_step_no (j := 28) (t := 33) rfl rfl rfl rfl rfl rfl rfl ?_
          refine g_step_no (j := 28) (t := 33) rfl rfl rfl rfl rfl rfl rfl ?_
          refine g_step_no (j := 28) (t := 33) rfl rfl rfl rfl rfl rfl rfl ?_
          refine g_step_no (j := 28) (t := 33) rfl rfl rfl rfl rfl rfl rfl ?_
          refine g_step rfl (s_val (v_pick_t rfl rfl) rfl rfl ?_)
          refine g_step rfl (s_val (v_move rfl) rfl rfl ?_)
          refine g_step_no (j := 37) (t := 42) rfl rfl rfl rfl rfl rfl rfl ?_
          refine g_step_no (j := 37) (t := 42) rfl rfl rfl rfl rfl rfl rfl ?_
          refine g_step_no (j := 37) (t := 42) rfl rfl rfl rfl rfl rfl rfl ?_
          refine g_step_no (j := 37) (t := 42) rfl rfl rfl rfl rfl rfl rfl ?_
          refine g_step_no (j := 37) (t := 42) rfl rfl rfl rfl rfl rfl rfl ?_
          refine g_step rfl (s_val (v_pick_t rfl rfl) rfl rfl ?_)
          refine g_step rfl (s_val (v_move rfl) rfl rfl ?_)
          refine g_step_no (j := 44) (t := 49) rfl rfl rfl rfl rfl rfl rfl ?_
          refine g_step_no (j := 44) (t := 49) rfl rfl rfl rfl rfl rfl rfl ?_
          refine g_step_no (j := 44) (t := 49) rfl rfl rfl rfl rfl rfl rfl ?_
          refine g_step_no (j := 44) (t := 49) rfl rfl rfl rfl rfl rfl rfl ?_
          refine g_step_no (j := 44) (t := 49) rfl rfl rfl rfl rfl rfl rfl ?_
          refine g_step rfl (s_val (v_pick_t rfl rfl) rfl rfl ?_)
          refine g_nil ?_
          refine g_next hK2 ?_
          first | refine g_keep [55] [2, 3] [2, 3] (keep_cons rfl keep_nil) (lkeep_cons rfl (lkeep_cons rfl lkeep_nil)) (keep_cons rfl (keep_cons rfl keep_nil)) rfl ?_ | refine g_keep [55] [2, 3] [2, 3] rfl rfl rfl rfl ?_
          refine g_cond rfl (fun _ => ?_) (fun h => by cases h)
          refine g_seq (fun K6 hK6 => ?_)
          refine g_region ?_
          refine g_step rfl (s_val (v_assign rfl) rfl rfl ?_)
          refine g_nil ?_
          refine g_next hK6 ?_
          refine g_ret ?_
          refine g_then_ret ?_
          refine g_end1 (.inl rfl) Try.results38 (.tmp rfl) [] (ASub.refl _) (AHeap.sub_refl _) (fun p hp => by cases hp) ⟨rfl, ?_⟩
          first | (rw [decide_eq_false (p := a = b) (by rw [mg_eq]; first | omega | simp_all)]; done) | (rw [decide_eq_false (p := a = b) (by rw [mg_eq]; first | omega | simp_all)]; rfl)
        · try simp only [decide_eq_true_eq, decide_eq_false_iff_not, Bool.not_eq_true', Bool.not_eq_false', Bool.not_eq_eq_eq_not, Bool.not_true, Bool.not_false, Bool.and_eq_true, Bool.or_eq_true, Bool.or_eq_false_iff, beq_iff_eq, beq_eq_false_iff_ne, ne_eq, Int.not_lt, Int.not_le, Decidable.not_not] at hg33
          refine g_step_yes (j := 28) (t := 33) rfl rfl rfl rfl (s_fieldAddr ty30 fo30_3 ty25 rfl rfl ?_)
          refine g_step_yes (j := 28) (t := 33) rfl rfl rfl rfl (s_fieldAddr ty25 fo25_1 ty3 rfl rfl ?_)
          refine g_step_yes (j := 28) (t := 33) rfl rfl rfl rfl (s_val (v_loadl ty3 rfl rfl rfl rfl) rfl rfl ?_)
          refine g_step_yes (j := 28) (t := 33) rfl rfl rfl rfl (s_fieldAddr ty30 fo30_3 ty25 rfl rfl ?_)
          refine g_step_yes (j := 28) (t := 33) rfl rfl rfl rfl (s_fieldAddr ty25 fo25_1 ty3 rfl rfl ?_)
          refine g_step_yes (j := 28) (t := 33) rfl rfl rfl rfl (s_val (v_loadl ty3 rfl rfl rfl rfl) rfl rfl ?_)
          refine g_step_yes (j := 28) (t := 33) rfl rfl rfl rfl (s_val (v_neq rfl rfl) rfl rfl ?_)
          refine g_step rfl (s_val (v_pick_f rfl rfl) rfl rfl ?_)
          refine g_step rfl (s_val (v_move rfl) rfl rfl ?_)
          refine g_split 42 rfl (fun hg42 => ?_) (fun hg42 => ?_)
          · try simp only [decide_eq_true_eq, decide_eq_false_iff_not, Bool.not_eq_true', Bool.not_eq_false', Bool.not_eq_eq_eq_not, Bool.not_true, Bool.not_false, Bool.and_eq_true, Bool.or_eq_true, Bool.or_eq_false_iff, beq_iff_eq, beq_eq_false_iff_ne, ne_eq, Int.not_lt, Int.not_le, Decidable.not_not] at hg42
            refine g_step_no (j := 37) (t := 42) rfl rfl rfl rfl rfl rfl rfl ?_
            refine g_step_no (j := 37) (t := 42) rfl rfl rfl rfl rfl rfl rfl ?_
            refine g_step_no (j := 37) (t := 42) rfl rfl rfl rfl rfl rfl rfl ?_
            refine g_step_no (j := 37) (t := 42) rfl rfl rfl rfl rfl rfl rfl ?_
            refine g_step_no (j := 37) (t := 42) rfl rfl rfl rfl rfl rfl rfl ?_
            refine g_step rfl (s_val (v_pick_t rfl rfl) rfl rfl ?_)
            refine g_step rfl (s_val (v_move rfl) rfl rfl ?_)
            refine g_step_no (j := 44) (t := 49) rfl rfl rfl rfl rfl rfl rfl ?_
            refine g_step_no (j := 44) (t := 49) rfl rfl rfl rfl rfl rfl rfl ?_
            refine g_step_no (j := 44) (t := 49) rfl rfl rfl rfl rfl rfl rfl ?_
            refine g_step_no (j := 44) (t := 49) rfl rfl rfl rfl rfl rfl rfl ?_
            refine g_step_no (j := 44) (t := 49) rfl rfl rfl rfl rfl rfl rfl ?_
            refine g_step rfl (s_val (v_pick_t rfl rfl) rfl rfl ?_)
            refine g_nil ?_
            refine g_next hK2 ?_
            first | refine g_keep [55] [2, 3] [2, 3] (keep_cons rfl keep_nil) (lkeep_cons rfl (lkeep_cons rfl lkeep_nil)) (keep_cons rfl (keep_cons rfl keep_nil)) rfl ?_ | refine g_keep [55] [2, 3] [2, 3] rfl rfl rfl rfl ?_
            refine g_cond rfl (fun _ => ?_) (fun h => by cases h)
            refine g_seq (fun K7 hK7 => ?_)
            refine g_region ?_
            refine g_step rfl (s_val (v_assign rfl) rfl rfl ?_)
            refine g_nil ?_
            refine g_next hK7 ?_
            refine g_ret ?_
            refine g_then_ret ?_
            refine g_end1 (.inl rfl) Try.results38 (.tmp rfl) [] (ASub.refl _) (AHeap.sub_refl _) (fun p hp => by cases hp) ⟨rfl, ?_⟩
            first | (rw [decide_eq_false (p := a = b) (by rw [mg_eq]; first | omega | simp_all)]; done) | (rw [decide_eq_false (p := a = b) (by rw [mg_eq]; first | omega | simp_all)]; rfl)
          · try simp only [decide_eq_true_eq, decide_eq_false_iff_not, Bool.not_eq_true', Bool.not_eq_false', Bool.not_eq_eq_eq_not, Bool.not_true, Bool.not_false, Bool.and_eq_true, Bool.or_eq_true, Bool.or_eq_false_iff, beq_iff_eq, beq_eq_false_iff_ne, ne_eq, Int.not_lt, Int.not_le, Decidable.not_not] at hg42
            refine g_step_yes (j := 37) (t := 42) rfl rfl rfl rfl (s_fieldAddr ty30 fo30_4 ty3 rfl rfl ?_)
            refine g_step_yes (j := 37) (t := 42) rfl rfl rfl rfl (s_val (v_loadl ty3 rfl rfl rfl rfl) rfl rfl ?_)
            refine g_step_yes (j := 37) (t := 42) rfl rfl rfl rfl (s_fieldAddr ty30 fo30_4 ty3 rfl rfl ?_)
            refine g_step_yes (j := 37) (t := 42) rfl rfl rfl rfl (s_val (v_loadl ty3 rfl rfl rfl rfl) rfl rfl ?_)
            refine g_step_yes (j := 37) (t := 42) rfl rfl rfl rfl (s_val (v_neq rfl rfl) rfl rfl ?_)
            refine g_step rfl (s_val (v_pick_f rfl rfl) rfl rfl ?_)
            refine g_step rfl (s_val (v_move rfl) rfl rfl ?_)
            refine g_split 49 rfl (fun hg49 => ?_) (fun hg49 => ?_)
            · try simp only [decide_eq_true_eq, decide_eq_false_iff_not, Bool.not_eq_true', Bool.not_eq_false', Bool.not_eq_eq_eq_not, Bool.not_true, Bool.not_false, Bool.and_eq_true, Bool.or_eq_true, Bool.or_eq_false_iff, beq_iff_eq, beq_eq_false_iff_ne, ne_eq, Int.not_lt, Int.not_le, Decidable.not_not] at hg49
              refine g_step_no (j := 44) (t := 49) rfl rfl rfl rfl rfl rfl rfl ?_
              refine g_step_no (j := 44) (t := 49) rfl rfl rfl rfl rfl rfl rfl ?_
              refine g_step_no (j := 44) (t := 49) rfl rfl rfl rfl rfl rfl rfl ?_
              refine g_step_no (j := 44) (t := 49) rfl rfl rfl rfl rfl rfl rfl ?_
              refine g_step_no (j := 44) (t := 49) rfl rfl rfl rfl rfl rfl rfl ?_
              refine g_step rfl (s_val (v_pick_t rfl rfl) rfl rfl ?_)
              refine g_nil ?_
              refine g_next hK2 ?_
              first | refine g_keep [55] [2, 3] [2, 3] (keep_cons rfl keep_nil) (lkeep_cons rfl (lkeep_cons rfl lkeep_nil)) (keep_cons rfl (keep_cons rfl keep_nil)) rfl ?_ | refine g_keep [55] [2, 3] [2, 3] rfl rfl rfl rfl ?_
              refine g_cond rfl (fun _ => ?_) (fun h => by cases h)
              refine g_seq (fun K8 hK8 => ?_)
              refine g_region ?_
              refine g_step rfl (s_val (v_assign rfl) rfl rfl ?_)
              refine g_nil ?_
              refine g_next hK8 ?_
              refine g_ret ?_
              refine g_then_ret ?_
              refine g_end1 (.inl rfl) Try.results38 (.tmp rfl) [] (ASub.refl _) (AHeap.sub_refl _) (fun p hp => by cases hp) ⟨rfl, ?_⟩
              first | (rw [decide_eq_false (p := a = b) (by rw [mg_eq]; first | omega | simp_all)]; done) | (rw [decide_eq_false (p := a = b) (by rw [mg_eq]; first | omega | simp_all)]; rfl)
            · try simp only [decide_eq_true_eq, decide_eq_false_iff_not, Bool.not_eq_true', Bool.not_eq_false', Bool.not_eq_eq_eq_not, Bool.not_true, Bool.not_false, Bool.and_eq_true, Bool.or_eq_true, Bool.or_eq_false_iff, beq_iff_eq, beq_eq_false_iff_ne, ne_eq, Int.not_lt, Int.not_le, Decidable.not_not] at hg49
              refine g_step_yes (j := 44) (t := 49) rfl rfl rfl rfl (s_fieldAddr ty30 fo30_5 ty3 rfl rfl ?_)
              refine g_step_yes (j := 44) (t := 49) rfl rfl rfl rfl (s_val (v_loadl ty3 rfl rfl rfl rfl) rfl rfl ?_)
              refine g_step_yes (j := 44) (t := 49) rfl rfl rfl rfl (s_fieldAddr ty30 fo30_5 ty3 rfl rfl ?_)
              refine g_step_yes (j := 44) (t := 49) rfl rfl rfl rfl (s_val (v_loadl ty3 rfl rfl rfl rfl) rfl rfl ?_)
              refine g_step_yes (j := 44) (t := 49) rfl rfl rfl rfl (s_val (v_neq rfl rfl) rfl rfl ?_)
              refine g_step rfl (s_val (v_pick_f rfl rfl) rfl rfl ?_)
              refine g_nil ?_
              refine g_next hK2 ?_
              first | refine g_keep [55] [2, 3] [2, 3] (keep_cons rfl keep_nil) (lkeep_cons rfl (lkeep_cons rfl lkeep_nil)) (keep_cons rfl (keep_cons rfl keep_nil)) rfl ?_ | refine g_keep [55] [2, 3] [2, 3] rfl rfl rfl rfl ?_
              refine g_cond rfl (fun hc55 => ?_) (fun hc55 => ?_)
              · try simp only [decide_eq_true_eq, decide_eq_false_iff_not, Bool.not_eq_true', Bool.not_eq_false', Bool.not_eq_eq_eq_not, Bool.not_true, Bool.not_false, Bool.and_eq_true, Bool.or_eq_true, Bool.or_eq_false_iff, beq_iff_eq, beq_eq_false_iff_ne, ne_eq, Int.not_lt, Int.not_le, Decidable.not_not] at hc55
                refine g_seq (fun K9 hK9 => ?_)
                refine g_region ?_
                refine g_step rfl (s_val (v_assign rfl) rfl rfl ?_)
                refine g_nil ?_
                refine g_next hK9 ?_
                refine g_ret ?_
                refine g_then_ret ?_
                refine g_end1 (.inl rfl) Try.results38 (.tmp rfl) [] (ASub.refl _) (AHeap.sub_refl _) (fun p hp => by cases hp) ⟨rfl, ?_⟩
                first | (rw [decide_eq_false (p := a = b) (by rw [mg_eq]; first | omega | simp_all)]; done) | (rw [decide_eq_false (p := a = b) (by rw [mg_eq]; first | omega | simp_all)]; rfl)
              · try simp only [decide_eq_true_eq, decide_eq_false_iff_not, Bool.not_eq_true', Bool.not_eq_false', Bool.not_eq_eq_eq_not, Bool.not_true, Bool.not_false, Bool.and_eq_true, Bool.or_eq_true, Bool.or_eq_false_iff, beq_iff_eq, beq_eq_false_iff_ne, ne_eq, Int.not_lt, Int.not_le, Decidable.not_not] at hc55
                refine g_skip ?_
                refine g_next hK1 ?_
                refine g_seq (fun K10 hK10 => ?_)
                refine g_region ?_
                refine g_step rfl (s_fieldAddr ty30 fo30_6 ty3 rfl rfl ?_)
                refine g_step rfl (s_val (v_loadl ty3 rfl rfl rfl rfl) rfl rfl ?_)
                refine g_step rfl (s_fieldAddr ty30 fo30_6 ty3 rfl rfl ?_)
                refine g_step rfl (s_val (v_loadl ty3 rfl rfl rfl rfl) rfl rfl ?_)
                refine g_step rfl (s_val (v_eql rfl rfl) rfl rfl ?_)
                refine g_step rfl (s_val (v_move rfl) rfl rfl ?_)
                refine g_split 61 rfl (fun hg61 => ?_) (fun hg61 => ?_)
                · try simp only [decide_eq_true_eq, decide_eq_false_iff_not, Bool.not_eq_true', Bool.not_eq_false', Bool.not_eq_eq_eq_not, Bool.not_true, Bool.not_false, Bool.and_eq_true, Bool.or_eq_true, Bool.or_eq_false_iff, beq_iff_eq, beq_eq_false_iff_ne, ne_eq, Int.not_lt, Int.not_le, Decidable.not_not] at hg61
                  refine g_step_yes (j := 5) (t := 61) rfl rfl rfl rfl (s_fieldAddr ty30 fo30_7 ty3 rfl rfl ?_)
                  refine g_step_yes (j := 5) (t := 61) rfl rfl rfl rfl (s_val (v_loadl ty3 rfl rfl rfl rfl) rfl rfl ?_)
                  refine g_step_yes (j := 5) (t := 61) rfl rfl rfl rfl (s_fieldAddr ty30 fo30_7 ty3 rfl rfl ?_)
                  refine g_step_yes (j := 5) (t := 61) rfl rfl rfl rfl (s_val (v_loadl ty3 rfl rfl rfl rfl) rfl rfl ?_)
                  refine g_step_yes (j := 5) (t := 61) rfl rfl rfl rfl (s_val (v_eql rfl rfl) rfl rfl ?_)
                  refine g_step rfl (s_val (v_pick_t rfl rfl) rfl rfl ?_)
                  refine g_step rfl (s_val (v_move rfl) rfl rfl ?_)
                  refine g_split 68 rfl (fun hg68 => ?_) (fun hg68 => ?_)
                  · try simp only [decide_eq_true_eq, decide_eq_false_iff_not, Bool.not_eq_true', Bool.not_eq_false', Bool.not_eq_eq_eq_not, Bool.not_true, Bool.not_false, Bool.and_eq_true, Bool.or_eq_true, Bool.or_eq_false_iff, beq_iff_eq, beq_eq_false_iff_ne, ne_eq, Int.not_lt, Int.not_le, Decidable.not_not] at hg68
                    refine g_step_yes (j := 12) (t := 68) rfl rfl rfl rfl (s_fieldAddr ty30 fo30_8 ty3 rfl rfl ?_)
                    refine g_step_yes (j := 12) (t := 68) rfl rfl rfl rfl (s_val (v_loadl ty3 rfl rfl rfl rfl) rfl rfl ?_)
                    refine g_step_yes (j := 12) (t := 68) rfl rfl rfl rfl (s_fieldAddr ty30 fo30_8 ty3 rfl rfl ?_)
                    refine g_step_yes (j := 12) (t := 68) rfl rfl rfl rfl (s_val (v_loadl ty3 rfl rfl rfl rfl) rfl rfl ?_)
                    refine g_step_yes (j := 12) (t := 68) rfl rfl rfl rfl (s_val (v_eql rfl rfl) rfl rfl ?_)
                    refine g_step rfl (s_val (v_pick_t rfl rfl) rfl rfl ?_)
                    refine g_step rfl (s_val (v_move rfl) rfl rfl ?_)
                    refine g_split 75 rfl (fun hg75 => ?_) (fun hg75 => ?_)
                    · try simp only [decide_eq_true_eq, decide_eq_false_iff_not, Bool.not_eq_true', Bool.not_eq_false', Bool.not_eq_eq_eq_not, Bool.not_true, Bool.not_false, Bool.and_eq_true, Bool.or_eq_true, Bool.or_eq_false_iff, beq_iff_eq, beq_eq_false_iff_ne, ne_eq, Int.not_lt, Int.not_le, Decidable.not_not] at hg75
                      refine g_step_yes (j := 19) (t := 75) rfl rfl rfl rfl (s_fieldAddr ty30 fo30_9 ty23 rfl rfl ?_)
                      refine g_step_yes (j := 19) (t := 75) rfl rfl rfl rfl (s_val (v_loadl ty23 rfl rfl rfl rfl) rfl rfl ?_)
                      refine g_step_yes (j := 19) (t := 75) rfl rfl rfl rfl (s_fieldAddr ty30 fo30_9 ty23 rfl rfl ?_)
                      refine g_step_yes (j := 19) (t := 75) rfl rfl rfl rfl (s_val (v_loadl ty23 rfl rfl rfl rfl) rfl rfl ?_)
                      refine g_step_yes (j := 19) (t := 75) rfl rfl rfl rfl (s_callp rfl rfl rfl (allAlike_ok a.recs b.recs _ _ _ rfl rfl (by omega) hs) ?_)
                      rintro _ rfl
                      refine g_step rfl (s_val (v_pick_t rfl rfl) rfl rfl ?_)
                      refine g_step rfl (s_val (v_assign rfl) rfl rfl ?_)
                      refine g_nil ?_
                      refine g_next hK10 ?_
                      refine g_ret ?_
                      refine g_end1 (.inl rfl) Try.results38 (.tmp rfl) [] (ASub.refl _) (AHeap.sub_refl _) (fun p hp => by cases hp) ⟨rfl, ?_⟩
                      first | (first | (rw [decide_eq_false (p := a = b) (by rw [mg_eq]; first | omega | (simp_all; done))]; rfl) | exact congrArg AV.bool (decide_eq_decide.2 (by rw [mg_eq]; simp_all)); done) | (first | (rw [decide_eq_false (p := a = b) (by rw [mg_eq]; first | omega | (simp_all; done))]; rfl) | exact congrArg AV.bool (decide_eq_decide.2 (by rw [mg_eq]; simp_all)); rfl)
                    · try simp only [decide_eq_true_eq, decide_eq_false_iff_not, Bool.not_eq_true', Bool.not_eq_false', Bool.not_eq_eq_eq_not, Bool.not_true, Bool.not_false, Bool.and_eq_true, Bool.or_eq_true, Bool.or_eq_false_iff, beq_iff_eq, beq_eq_false_iff_ne, ne_eq, Int.not_lt, Int.not_le, Decidable.not_not] at hg75
                      refine g_step_no (j := 19) (t := 75) rfl rfl rfl rfl rfl rfl rfl ?_
                      refine g_step_no (j := 19) (t := 75) rfl rfl rfl rfl rfl rfl rfl ?_
                      refine g_step_no (j := 19) (t := 75) rfl rfl rfl rfl rfl rfl rfl ?_
                      refine g_step_no (j := 19) (t := 75) rfl rfl rfl rfl rfl rfl rfl ?_
                      refine g_step_no (j := 19) (t := 75) rfl rfl rfl rfl rfl rfl rfl ?_
                      refine g_step rfl (s_val (v_pick_f rfl rfl) rfl rfl ?_)
                      refine g_step rfl (s_val (v_assign rfl) rfl rfl ?_)
                      refine g_nil ?_
                      refine g_next hK10 ?_
                      refine g_ret ?_
                      refine g_end1 (.inl rfl) Try.results38 (.tmp rfl) [] (ASub.refl _) (AHeap.sub_refl _) (fun p hp => by cases hp) ⟨rfl, ?_⟩
                      first | (first | (rw [decide_eq_false (p := a = b) (by rw [mg_eq]; first | omega | (simp_all; done))]; rfl) | exact congrArg AV.bool (decide_eq_decide.2 (by rw [mg_eq]; simp_all)); done) | (first | (rw [decide_eq_false (p := a = b) (by rw [mg_eq]; first | omega | (simp_all; done))]; rfl) | exact congrArg AV.bool (decide_eq_decide.2 (by rw [mg_eq]; simp_all)); rfl)
                  · try simp only [decide_eq_true_eq, decide_eq_false_iff_not, Bool.not_eq_true', Bool.not_eq_false', Bool.not_eq_eq_eq_not, Bool.not_true, Bool.not_false, Bool.and_eq_true, Bool.or_eq_true, Bool.or_eq_false_iff, beq_iff_eq, beq_eq_false_iff_ne, ne_eq, Int.not_lt, Int.not_le, Decidable.not_not] at hg68
                    refine g_step_no (j := 12) (t := 68) rfl rfl rfl rfl rfl rfl rfl ?_
                    refine g_step_no (j := 12) (t := 68) rfl rfl rfl rfl rfl rfl rfl ?_
                    refine g_step_no (j := 12) (t := 68) rfl rfl rfl rfl rfl rfl rfl ?_
                    refine g_step_no (j := 12) (t := 68) rfl rfl rfl rfl rfl rfl rfl ?_
                    refine g_step_no (j := 12) (t := 68) rfl rfl rfl rfl rfl rfl rfl ?_
                    refine g_step rfl (s_val (v_pick_f rfl rfl) rfl rfl ?_)
                    refine g_step rfl (s_val (v_move rfl) rfl rfl ?_)
                    refine g_step_no (j := 19) (t := 75) rfl rfl rfl rfl rfl rfl rfl ?_
                    refine g_step_no (j := 19) (t := 75) rfl rfl rfl rfl rfl rfl rfl ?_
                    refine g_step_no (j := 19) (t := 75) rfl rfl rfl rfl rfl rfl rfl ?_
                    refine g_step_no (j := 19) (t := 75) rfl rfl rfl rfl rfl rfl rfl ?_
                    refine g_step_no (j := 19) (t := 75) rfl rfl rfl rfl rfl rfl rfl ?_
                    refine g_step rfl (s_val (v_pick_f rfl rfl) rfl rfl ?_)
                    refine g_step rfl (s_val (v_assign rfl) rfl rfl ?_)
                    refine g_nil ?_
                    refine g_next hK10 ?_
                    refine g_ret ?_
                    refine g_end1 (.inl rfl) Try.results38 (.tmp rfl) [] (ASub.refl _) (AHeap.sub_refl _) (fun p hp => by cases hp) ⟨rfl, ?_⟩
                    first | (first | (rw [decide_eq_false (p := a = b) (by rw [mg_eq]; first | omega | (simp_all; done))]; rfl) | exact congrArg AV.bool (decide_eq_decide.2 (by rw [mg_eq]; simp_all)); done) | (first | (rw [decide_eq_false (p := a = b) (by rw [mg_eq]; first | omega | (simp_all; done))]; rfl) | exact congrArg AV.bool (decide_eq_decide.2 (by rw [mg_eq]; simp_all)); rfl)
                · try simp only [decide_eq_true_eq, decide_eq_false_iff_not, Bool.not_eq_true', Bool.not_eq_false', Bool.not_eq_eq_eq_not, Bool.not_true, Bool.not_false, Bool.and_eq_true, Bool.or_eq_true, Bool.or_eq_false_iff, beq_iff_eq, beq_eq_false_iff_ne, ne_eq, Int.not_lt, Int.not_le, Decidable.not_not] at hg61
                  refine g_step_no (j := 5) (t := 61) rfl rfl rfl rfl rfl rfl rfl ?_
                  refine g_step_no (j := 5) (t := 61) rfl rfl rfl rfl rfl rfl rfl ?_
                  refine g_step_no (j := 5) (t := 61) rfl rfl rfl rfl rfl rfl rfl ?_
                  refine g_step_no (j := 5) (t := 61) rfl rfl rfl rfl rfl rfl rfl ?_
                  refine g_step_no (j := 5) (t := 61) rfl rfl rfl rfl rfl rfl rfl ?_
                  refine g_step rfl (s_val (v_pick_f rfl rfl) rfl rfl ?_)
                  refine g_step rfl (s_val (v_move rfl) rfl rfl ?_)
                  refine g_step_no (j := 12) (t := 68) rfl rfl rfl rfl rfl rfl rfl ?_
                  refine g_step_no (j := 12) (t := 68) rfl rfl rfl rfl rfl rfl rfl ?_
                  refine g_step_no (j := 12) (t := 68) rfl rfl rfl rfl rfl rfl rfl ?_
                  refine g_step_no (j := 12) (t := 68) rfl rfl rfl rfl rfl rfl rfl ?_
                  refine g_step_no (j := 12) (t := 68) rfl rfl rfl rfl rfl rfl rfl ?_
                  refine g_step rfl (s_val (v_pick_f rfl rfl) rfl rfl ?_)
                  refine g_step rfl (s_val (v_move rfl) rfl rfl ?_)
                  refine g_step_no (j := 19) (t := 75) rfl rfl rfl rfl rfl rfl rfl ?_
                  refine g_step_no (j := 19) (t := 75) rfl rfl rfl rfl rfl rfl rfl ?_
                  refine g_step_no (j := 19) (t := 75) rfl rfl rfl rfl rfl rfl rfl ?_
                  refine g_step_no (j := 19) (t := 75) rfl rfl rfl rfl rfl rfl rfl ?_
                  refine g_step_no (j := 19) (t := 75) rfl rfl rfl rfl rfl rfl rfl ?_
                  refine g_step rfl (s_val (v_pick_f rfl rfl) rfl rfl ?_)
                  refine g_step rfl (s_val (v_assign rfl) rfl rfl ?_)
                  refine g_nil ?_
                  refine g_next hK10 ?_
                  first | refine g_keep [4] [] [] (keep_cons rfl keep_nil) lkeep_nil keep_nil rfl ?_ | refine g_keep [4] [] [] rfl rfl rfl rfl ?_
                  refine g_ret ?_
                  refine g_end1 (.inl rfl) Try.results38 (.tmp rfl) [] (ASub.refl _) (AHeap.sub_refl _) (fun p hp => by cases hp) ⟨rfl, ?_⟩
                  first | (first | (rw [decide_eq_false (p := a = b) (by rw [mg_eq]; first | omega | (simp_all; done))]; rfl) | exact congrArg AV.bool (decide_eq_decide.2 (by rw [mg_eq]; simp_all)); done) | (first | (rw [decide_eq_false (p := a = b) (by rw [mg_eq]; first | omega | (simp_all; done))]; rfl) | exact congrArg AV.bool (decide_eq_decide.2 (by rw [mg_eq]; simp_all)); rfl)

theorem mhead_ok (m : Mg) (G : AHeap) : PCalls Try.prog 36 [encM m] G (fun r => r = encM (mhead m)) := by
  refine LCalls.intro 5 fi36 rfl Try.ntmps36 rfl (fun _ h => h.elim) (fun H hH w0 hw0 => ?_)
  refine g_seq (fun K0 hK0 => ?_)
  refine g_region ?_
  refine g_step rfl (s_box rfl rfl rfl rfl ?_)
  refine g_step rfl (s_alloc (av := (.agg [(.int .i64 0), (.int .i64 0), (.int .i64 0), (.int .i64 0), (.int .i64 0), (.int .i64 0), (.int .i64 0), (.int .i64 0), (.int .i64 0), (.int .i64 0), .nil0])) ty30 rfl rfl rfl rfl ?_)
  refine g_nil ?_
  refine g_next hK0 ?_
  refine g_seq (fun K1 hK1 => ?_)
  refine g_region ?_
  refine g_step rfl (s_fieldAddr ty30 fo30_9 ty23 rfl rfl ?_)
  refine g_step rfl (s_store (new := .agg [_, _, _, _, _, _, _, _, _, _, _]) ty23 rfl rfl rfl rfl rfl rfl rfl ?_)
  refine g_nil ?_
  refine g_next hK1 ?_
  refine g_seq (fun K2 hK2 => ?_)
  refine g_region ?_
  refine g_step rfl (s_val (by first | exact v_loadl_all ty30 rfl rfl rfl rfl rfl | exact v_loadl_part (cs := [_, _, _, _, _, _, _, _, _, _, _]) ty30 rfl rfl rfl rfl rfl rfl) rfl rfl ?_)
  refine g_step rfl (s_store_all ty30 rfl rfl rfl rfl rfl rfl ?_)
  refine g_nil ?_
  refine g_wkB 2 rfl (v' := encM (mhead m)) rfl ?_
  refine g_next hK2 ?_
  refine g_ret ?_
  refine g_end1 (.inl rfl) Try.results36 (.agg ty30 rfl rfl rfl rfl rfl) [] (ASub.refl _) (AHeap.sub_refl _) (fun p hp => by cases hp) ⟨rfl, ?_⟩
  rfl

theorem mfew_ok (m : Mg) (G : AHeap) (hh : ∀ r ∈ m.recs, Held r.bag) (hn : m.recs.length ≤ 140737488351232) : PCalls Try.prog 35 [encM m] G (fun r => r = .bool (fewL m.recs)) := by
  refine LCalls.intro 6 fi35 rfl Try.ntmps35 rfl (fun _ h => h.elim) (fun H hH w0 hw0 => ?_)
  refine g_seq (fun K0 hK0 => ?_)
  refine g_region ?_
  refine g_step rfl (s_box rfl rfl rfl rfl ?_)
  refine g_step rfl (s_val (v_assign rfl) rfl rfl ?_)
  refine g_nil ?_
  refine g_next hK0 ?_
  refine g_seq (fun K1 hK1 => ?_)
  refine g_region ?_
  refine g_step rfl (s_fieldAddr ty30 fo30_9 ty23 rfl rfl ?_)
  refine g_step rfl (s_val (v_loadl ty23 rfl rfl rfl rfl) rfl rfl ?_)
  refine g_step rfl (s_callp rfl rfl rfl (fewL_ok m.recs _ _ rfl hh hn) ?_)
  rintro _ rfl
  refine g_step rfl (s_val (v_assign rfl) rfl rfl ?_)
  refine g_nil ?_
  refine g_next hK1 ?_
  refine g_ret ?_
  refine g_end1 (.inl rfl) Try.results35 (.tmp rfl) [] (ASub.refl _) (AHeap.sub_refl _) (fun p hp => by cases hp) ⟨rfl, ?_⟩
  rfl

end Go.Proofs.Ytnkcofpkmnohkaa

import Derived.Test.YtobigfbgaiglkaaPTimer
import Derived.Test.YtobigfbgaiglkaaSortLay
set_option maxHeartbeats 8000000
set_option linter.unusedSimpArgs false
set_option linter.unusedVariables false
set_option maxRecDepth 100000
namespace Go.Proofs.Ytobigfbgaiglkaa
open Go Go.Proofs.Ytobigfbgaiglkaa.AM
theorem len64z_ok (G : AHeap) : PCalls Try.prog 119 [.int .u64 0] G (fun v => v = .int .i64 0) := by
  refine LCalls.intro 25 fi119 rfl Try.ntmps119 rfl (fun _ h => h.elim) (fun H hH w0 hw0 => ?_)
  refine g_seq (fun K0 hK0 => ?_)
  refine g_region ?_
  refine g_step rfl (s_val (v_assign rfl) rfl rfl ?_)
  refine g_nil ?_
  refine g_next hK0 ?_
  refine g_seq (fun K1 hK1 => ?_)
  refine g_seq (fun K2 hK2 => ?_)
  refine g_region ?_
  refine g_step rfl (s_val (v_move rfl) rfl rfl ?_)
  refine g_step rfl (s_val (v_geq rfl rfl) rfl rfl ?_)
  refine g_nil ?_
  refine g_next hK2 ?_
  refine g_cond rfl (fun hc4 => ?_) (fun hc4 => ?_)
  · exfalso; (try simp only [decide_eq_true_eq, decide_eq_false_iff_not, Bool.not_eq_true', Bool.not_eq_false', Bool.not_eq_eq_eq_not, Bool.not_true, Bool.not_false, Bool.and_eq_true, Bool.or_eq_true, Bool.or_eq_false_iff, beq_iff_eq, beq_eq_false_iff_ne, ne_eq, Int.not_lt, Int.not_le, Decidable.not_not] at hc4); exact absurd hc4 (by decide)
  · try simp only [decide_eq_true_eq, decide_eq_false_iff_not, Bool.not_eq_true', Bool.not_eq_false', Bool.not_eq_eq_eq_not, Bool.not_true, Bool.not_false, Bool.and_eq_true, Bool.or_eq_true, Bool.or_eq_false_iff, beq_iff_eq, beq_eq_false_iff_ne, ne_eq, Int.not_lt, Int.not_le, Decidable.not_not] at hc4
    refine g_skip ?_
    refine g_next hK1 ?_
    refine g_seq (fun K3 hK3 => ?_)
    refine g_seq (fun K4 hK4 => ?_)
    refine g_region ?_
    refine g_step rfl (s_val (v_move rfl) rfl rfl ?_)
    refine g_step rfl (s_val (v_geq rfl rfl) rfl rfl ?_)
    refine g_nil ?_
    refine g_next hK4 ?_
    refine g_cond rfl (fun hc8 => ?_) (fun hc8 => ?_)
    · exfalso; (try simp only [decide_eq_true_eq, decide_eq_false_iff_not, Bool.not_eq_true', Bool.not_eq_false', Bool.not_eq_eq_eq_not, Bool.not_true, Bool.not_false, Bool.and_eq_true, Bool.or_eq_true, Bool.or_eq_false_iff, beq_iff_eq, beq_eq_false_iff_ne, ne_eq, Int.not_lt, Int.not_le, Decidable.not_not] at hc8); exact absurd hc8 (by decide)
    · try simp only [decide_eq_true_eq, decide_eq_false_iff_not, Bool.not_eq_true', Bool.not_eq_false', Bool.not_eq_eq_eq_not, Bool.not_true, Bool.not_false, Bool.and_eq_true, Bool.or_eq_true, Bool.or_eq_false_iff, beq_iff_eq, beq_eq_false_iff_ne, ne_eq, Int.not_lt, Int.not_le, Decidable.not_not] at hc8
      refine g_skip ?_
      refine g_next hK3 ?_
      refine g_seq (fun K5 hK5 => ?_)
      refine g_seq (fun K6 hK6 => ?_)
      refine g_region ?_
      refine g_step rfl (s_val (v_move rfl) rfl rfl ?_)
      refine g_step rfl (s_val (v_geq rfl rfl) rfl rfl ?_)
      refine g_nil ?_
      refine g_next hK6 ?_
      refine g_cond rfl (fun hc14 => ?_) (fun hc14 => ?_)
      · exfalso; (try simp only [decide_eq_true_eq, decide_eq_false_iff_not, Bool.not_eq_true', Bool.not_eq_false', Bool.not_eq_eq_eq_not, Bool.not_true, Bool.not_false, Bool.and_eq_true, Bool.or_eq_true, Bool.or_eq_false_iff, beq_iff_eq, beq_eq_false_iff_ne, ne_eq, Int.not_lt, Int.not_le, Decidable.not_not] at hc14); exact absurd hc14 (by decide)
      · try simp only [decide_eq_true_eq, decide_eq_false_iff_not, Bool.not_eq_true', Bool.not_eq_false', Bool.not_eq_eq_eq_not, Bool.not_true, Bool.not_false, Bool.and_eq_true, Bool.or_eq_true, Bool.or_eq_false_iff, beq_iff_eq, beq_eq_false_iff_ne, ne_eq, Int.not_lt, Int.not_le, Decidable.not_not] at hc14
        refine g_skip ?_
        refine g_next hK5 ?_
        refine g_seq (fun K7 hK7 => ?_)
        refine g_region ?_
        refine g_step rfl (s_val (v_move rfl) rfl rfl ?_)
        refine g_step rfl (s_val (v_move rfl) rfl rfl ?_)
        refine g_step rfl (s_val (v_conv_int (m := 0) ty204 ty5 rfl (by decide)) rfl rfl ?_)
        refine g_step rfl (s_val (v_index_str (i := 0) (b := 0) ty9 rfl rfl (by first | rfl | exact (rfl : (0 : Int) = ((0 : Nat) : Int)) | exact (Int.toNat_of_nonneg (by omega)).symm) rfl) rfl rfl ?_)
        refine g_step rfl (s_val (v_conv_int (m := 0) ty5 ty3 rfl (by decide)) rfl rfl ?_)
        refine g_step rfl (s_val (v_add rfl rfl (by omega)) rfl rfl ?_)
        refine g_step rfl (s_val (v_assign rfl) rfl rfl ?_)
        refine g_nil ?_
        refine g_next hK7 ?_
        refine g_ret ?_
        refine g_end1 (.inl rfl) Try.results119 (.tmp rfl) [] (ASub.refl _) (AHeap.sub_refl _) (fun p hp => by cases hp) ⟨rfl, ?_⟩
        rfl

theorem lenz_ok (G : AHeap) : PCalls Try.prog 91 [.int .u64 0] G (fun v => v = .int .i64 0) := by
  refine LCalls.intro 8 fi91 rfl Try.ntmps91 rfl (fun _ h => h.elim) (fun H hH w0 hw0 => ?_)
  refine g_seq (fun K0 hK0 => ?_)
  refine g_region ?_
  refine g_step rfl (s_val (v_assign rfl) rfl rfl ?_)
  refine g_nil ?_
  refine g_next hK0 ?_
  refine g_seq (fun K1 hK1 => ?_)
  refine g_cond rfl (fun h => by cases h) (fun _ => ?_)
  refine g_skip ?_
  refine g_next hK1 ?_
  refine g_seq (fun K2 hK2 => ?_)
  refine g_region ?_
  refine g_step rfl (s_val (v_move rfl) rfl rfl ?_)
  refine g_step rfl (s_callp rfl rfl rfl (len64z_ok _) ?_)
  rintro _ rfl
  refine g_step rfl (s_val (v_assign rfl) rfl rfl ?_)
  refine g_nil ?_
  refine g_next hK2 ?_
  refine g_ret ?_
  refine g_end1 (.inl rfl) Try.results91 (.tmp rfl) [] (ASub.refl _) (AHeap.sub_refl _) (fun p hp => by cases hp) ⟨rfl, ?_⟩
  rfl

theorem insSortNil_ok (G : AHeap) : PCalls Try.prog 110 [.nil0, .int .i64 0, .int .i64 0] G (fun v => v = .tup []) := by
  refine LCalls.intro 49 fi110 rfl Try.ntmps110 rfl (fun _ h => h.elim) (fun H hH w0 hw0 => ?_)
  refine g_seq (fun K0 hK0 => ?_)
  refine g_region ?_
  refine g_step rfl (s_val (v_move rfl) rfl rfl ?_)
  refine g_step rfl (s_val (v_add rfl rfl (by omega)) rfl rfl ?_)
  refine g_step rfl (s_val (v_assign rfl) rfl rfl ?_)
  refine g_nil ?_
  refine g_next hK0 ?_
  refine g_block ?_
  first | refine g_keep [0, 1, 2, 6] [] [] (keep_cons rfl (keep_cons rfl (keep_cons rfl (keep_cons rfl keep_nil)))) lkeep_nil keep_nil rfl ?_ | refine g_keep [0, 1, 2, 6] [] [] rfl rfl rfl rfl ?_
  refine g_loop (fun n env L B G => env = [(0, .nil0), (1, .int .i64 0), (2, .int .i64 0), (6, .int .i64 (0 + 1))] ∧ L = [] ∧ B = [] ∧ H = G) 0 ⟨rfl, rfl, rfl, rfl⟩ (fun n env L B G hI => ?_)
  obtain ⟨rfl, rfl, rfl, rfl⟩ := hI
  refine g_seq (fun K1 hK1 => ?_)
  refine g_seq (fun K2 hK2 => ?_)
  refine g_region ?_
  refine g_step rfl (s_val (v_move rfl) rfl rfl ?_)
  refine g_step rfl (s_val (v_move rfl) rfl rfl ?_)
  refine g_step rfl (s_val (v_lss rfl rfl) rfl rfl ?_)
  refine g_nil ?_
  refine g_next hK2 ?_
  refine g_cond rfl (fun hc12 => ?_) (fun hc12 => ?_)
  · exfalso; (try simp only [decide_eq_true_eq, decide_eq_false_iff_not, Bool.not_eq_true', Bool.not_eq_false', Bool.not_eq_eq_eq_not, Bool.not_true, Bool.not_false, Bool.and_eq_true, Bool.or_eq_true, Bool.or_eq_false_iff, beq_iff_eq, beq_eq_false_iff_ne, ne_eq, Int.not_lt, Int.not_le, Decidable.not_not] at hc12); exact absurd hc12 (by decide)
  · try simp only [decide_eq_true_eq, decide_eq_false_iff_not, Bool.not_eq_true', Bool.not_eq_false', Bool.not_eq_eq_eq_not, Bool.not_true, Bool.not_false, Bool.and_eq_true, Bool.or_eq_true, Bool.or_eq_false_iff, beq_iff_eq, beq_eq_false_iff_ne, ne_eq, Int.not_lt, Int.not_le, Decidable.not_not] at hc12
    refine g_exit ?_
    refine g_then_exit ?_
    refine g_then_exit ?_
    refine g_block_same ?_
    refine g_end0 (.inr rfl) Try.results110  []  (AHeap.sub_refl _) (fun p hp => by cases hp) ⟨rfl, ?_⟩
    rfl

theorem pdqNil_ok (G : AHeap) : PCalls Try.prog 90 [.nil0, .int .i64 0, .int .i64 0, .int .i64 0] G (fun v => v = .tup []) := by
  refine LCalls.intro 134 fi90 rfl Try.ntmps90 rfl (fun _ h => h.elim) (fun H hH w0 hw0 => ?_)
  refine g_seq (fun K0 hK0 => ?_)
  refine g_region ?_
  refine g_step rfl (s_val (v_assign rfl) rfl rfl ?_)
  refine g_nil ?_
  refine g_next hK0 ?_
  refine g_seq (fun K1 hK1 => ?_)
  refine g_region ?_
  refine g_step rfl (s_val (v_assign rfl) rfl rfl ?_)
  refine g_nil ?_
  refine g_next hK1 ?_
  refine g_block ?_
  first | refine g_keep [0, 1, 2, 3, 8, 9] [] [] (keep_cons rfl (keep_cons rfl (keep_cons rfl (keep_cons rfl (keep_cons rfl (keep_cons rfl keep_nil)))))) lkeep_nil keep_nil rfl ?_ | refine g_keep [0, 1, 2, 3, 8, 9] [] [] rfl rfl rfl rfl ?_
  refine g_loop (fun n env L B G => env = [(0, .nil0), (1, .int .i64 0), (2, .int .i64 0), (3, .int .i64 0), (8, .bool true), (9, .bool true)] ∧ L = [] ∧ B = [] ∧ H = G) 0 ⟨rfl, rfl, rfl, rfl⟩ (fun n env L B G hI => ?_)
  obtain ⟨rfl, rfl, rfl, rfl⟩ := hI
  refine g_block ?_
  refine g_seq (fun K2 hK2 => ?_)
  refine g_region ?_
  refine g_step rfl (s_val (v_move rfl) rfl rfl ?_)
  refine g_step rfl (s_val (v_move rfl) rfl rfl ?_)
  refine g_step rfl (s_val (v_sub_ rfl rfl (by omega)) rfl rfl ?_)
  refine g_step rfl (s_val (v_assign rfl) rfl rfl ?_)
  refine g_nil ?_
  refine g_next hK2 ?_
  refine g_seq (fun K3 hK3 => ?_)
  refine g_seq (fun K4 hK4 => ?_)
  refine g_region ?_
  refine g_step rfl (s_val (v_move rfl) rfl rfl ?_)
  refine g_step rfl (s_val (v_leq rfl rfl) rfl rfl ?_)
  refine g_nil ?_
  refine g_next hK4 ?_
  refine g_cond rfl (fun hc23 => ?_) (fun hc23 => ?_)
  · try simp only [decide_eq_true_eq, decide_eq_false_iff_not, Bool.not_eq_true', Bool.not_eq_false', Bool.not_eq_eq_eq_not, Bool.not_true, Bool.not_false, Bool.and_eq_true, Bool.or_eq_true, Bool.or_eq_false_iff, beq_iff_eq, beq_eq_false_iff_ne, ne_eq, Int.not_lt, Int.not_le, Decidable.not_not] at hc23
    refine g_seq (fun K5 hK5 => ?_)
    refine g_region ?_
    refine g_step rfl (s_val (v_move rfl) rfl rfl ?_)
    refine g_step rfl (s_val (v_move rfl) rfl rfl ?_)
    refine g_step rfl (s_val (v_move rfl) rfl rfl ?_)
    refine g_step rfl (s_callp rfl rfl rfl (insSortNil_ok _) ?_)
    rintro _ rfl
    refine g_nil ?_
    refine g_next hK5 ?_
    refine g_ret ?_
    refine g_then_ret ?_
    refine g_block_ret ?_
    refine g_then_ret ?_
    refine g_block_ret ?_
    refine g_end0 (.inl rfl) Try.results90  []  (AHeap.sub_refl _) (fun p hp => by cases hp) ⟨rfl, ?_⟩
    rfl
  · exfalso; (try simp only [decide_eq_true_eq, decide_eq_false_iff_not, Bool.not_eq_true', Bool.not_eq_false', Bool.not_eq_eq_eq_not, Bool.not_true, Bool.not_false, Bool.and_eq_true, Bool.or_eq_true, Bool.or_eq_false_iff, beq_iff_eq, beq_eq_false_iff_ne, ne_eq, Int.not_lt, Int.not_le, Decidable.not_not] at hc23); exact absurd hc23 (by decide)

theorem sortNil_ok (G : AHeap) : PCalls Try.prog 57 [.nil0] G (fun v => v = .tup []) := by
  refine LCalls.intro 11 fi57 rfl Try.ntmps57 rfl (fun _ h => h.elim) (fun H hH w0 hw0 => ?_)
  refine g_seq (fun K0 hK0 => ?_)
  refine g_region ?_
  refine g_step rfl (s_val (v_move rfl) rfl rfl ?_)
  refine g_step rfl (s_val (v_len ty41 rfl (by first | rfl | assumption) (by first | exact List.length_map .. | rfl)) rfl rfl ?_)
  refine g_step rfl (s_val (v_assign rfl) rfl rfl ?_)
  refine g_nil ?_
  refine g_next hK0 ?_
  refine g_region ?_
  refine g_step rfl (s_val (v_move rfl) rfl rfl ?_)
  refine g_step rfl (s_val (v_move rfl) rfl rfl ?_)
  refine g_step rfl (s_val (v_move rfl) rfl rfl ?_)
  refine g_step rfl (s_val (v_conv_int (m := _) ty3 ty180 rfl rfl) rfl rfl ?_)
  refine g_step rfl (s_callp rfl rfl rfl (lenz_ok _) ?_)
  rintro _ rfl
  refine g_step rfl (s_callp rfl rfl rfl (pdqNil_ok _) ?_)
  rintro _ rfl
  refine g_nil ?_
  refine g_end0 (.inr rfl) Try.results57  []  (AHeap.sub_refl _) (fun p hp => by cases hp) ⟨rfl, ?_⟩
  rfl

theorem tmNew_ok (G : AHeap) : LCalls Try.prog 12 [] G noD (fun n v effs => ∃ p r, n ≤ p ∧ n ≤ r ∧ p ≠ r ∧ v = .box p 0 ∧ effs = [(p, .box (.agg [.map r])), (r, tmRow [])]) := by
  refine LCalls.intro 4 fi12 rfl Try.ntmps12 rfl (fun _ h => h.elim) (fun H hH w0 hw0 => ?_)
  refine g_seq (fun K0 hK0 => ?_)
  refine g_region ?_
  refine g_step rfl (s_val (v_assign rfl) rfl rfl ?_)
  refine g_nil ?_
  refine g_next hK0 ?_
  refine g_seq (fun K1 hK1 => ?_)
  refine g_region ?_
  refine g_step rfl (s_makeMap .i64 rfl (fun r1 hr1 hw1 => ?_))
  refine g_step rfl (s_val (v_build (vs := [(0, _)]) (zs := [.nilm]) (cells := [_]) ty119 pl119 rfl rfl rfl) rfl rfl ?_)
  refine g_step rfl (s_box rfl rfl rfl rfl ?_)
  refine g_expose 3 rfl rfl (fun r3 hr3 hw3 => ?_)
  refine g_step rfl (s_val (v_assign rfl) rfl rfl ?_)
  refine g_nil ?_
  refine g_next hK1 ?_
  refine g_ret ?_
  refine g_end1 (.inl rfl) Try.results12 (.tmp rfl) [(r3, .box (.agg [.map r1])), (r1, tmRow [])] (ASub.refl _) (AHeap.sub_refl _) (fun q hq => .inr (by simp at hq; rcases hq with rfl | rfl; exact hw3; exact hw1)) ⟨r3, r1, hw3, hw1, (fun e => by subst e; rw [AHeap.get_set] at hr3; cases hr3), rfl, rfl⟩

theorem tmSet_ok (p r : Nat) (m : TM) (id inc at' : Int) (G : AHeap) (hG : G p = some (.box (.agg [.map r]))) (hR : G r = some (tmRow m)) : LCalls Try.prog 13 [.box p 0, .int .i64 id, .int .i64 inc, .int .i64 at'] G (· = r) (fun n v effs => v = .tup [] ∧ effs = [(r, tmRow (pput m id ⟨id, inc, at'⟩))]) := by
  refine LCalls.intro 27 fi13 rfl Try.ntmps13 rfl (fun b hb => by subst hb; rw [hR]; simp) (fun H hH w0 hw0 => ?_)
  have hR0 := hR
  have hG := hH _ _ hG
  have hR := hH _ _ hR
  refine g_seq (fun K0 hK0 => ?_)
  refine g_seq (fun K1 hK1 => ?_)
  refine g_region ?_
  refine g_step rfl (s_val (v_move rfl) rfl rfl ?_)
  refine g_step rfl (s_val (by first | exact v_ptr_eql_nil ty24 rfl rfl rfl | exact v_nil_eql_nil ty24 rfl rfl | exact v_ptrO_eql ty24 rfl rfl) rfl rfl ?_)
  refine g_step rfl (s_val (v_move rfl) rfl rfl ?_)
  refine g_split 10 rfl (fun hg10 => ?_) (fun hg10 => ?_)
  · exfalso; (try simp only [decide_eq_true_eq, decide_eq_false_iff_not, Bool.not_eq_true', Bool.not_eq_false', Bool.not_eq_eq_eq_not, Bool.not_true, Bool.not_false, Bool.and_eq_true, Bool.or_eq_true, Bool.or_eq_false_iff, beq_iff_eq, beq_eq_false_iff_ne, ne_eq, Int.not_lt, Int.not_le, Decidable.not_not] at hg10); simp at hg10
  · try simp only [decide_eq_true_eq, decide_eq_false_iff_not, Bool.not_eq_true', Bool.not_eq_false', Bool.not_eq_eq_eq_not, Bool.not_true, Bool.not_false, Bool.and_eq_true, Bool.or_eq_true, Bool.or_eq_false_iff, beq_iff_eq, beq_eq_false_iff_ne, ne_eq, Int.not_lt, Int.not_le, Decidable.not_not] at hg10
    refine g_step_yes (j := 2) (t := 10) rfl rfl rfl rfl (s_val (v_move rfl) rfl rfl ?_)
    refine g_step_yes (j := 2) (t := 10) rfl rfl rfl rfl (s_val (v_nilCheck rfl rfl) rfl rfl ?_)
    refine g_step_yes (j := 2) (t := 10) rfl rfl rfl rfl (s_val (by first | exact v_fieldAddr ty119 fo119_0 ty117 rfl | exact v_fieldAddr_box ty119 fo119_0 ty117 rfl) rfl rfl ?_)
    refine g_step_yes (j := 2) (t := 10) rfl rfl rfl rfl (s_val (by first | exact v_load ty117 rfl rfl (by first | rfl | assumption) (by first | assumption | exact map_get (by assumption) | rfl) rfl | exact v_load_box ty117 rfl rfl (by assumption) rfl) rfl rfl ?_)
    refine g_step_yes (j := 2) (t := 10) rfl rfl rfl rfl (s_val (v_map_eql_nil ty117 rfl rfl) rfl rfl ?_)
    refine g_step rfl (s_val (v_pick_f rfl rfl) rfl rfl ?_)
    refine g_nil ?_
    refine g_next hK1 ?_
    refine g_cond rfl (fun hc16 => ?_) (fun hc16 => ?_)
    · exfalso; (try simp only [decide_eq_true_eq, decide_eq_false_iff_not, Bool.not_eq_true', Bool.not_eq_false', Bool.not_eq_eq_eq_not, Bool.not_true, Bool.not_false, Bool.and_eq_true, Bool.or_eq_true, Bool.or_eq_false_iff, beq_iff_eq, beq_eq_false_iff_ne, ne_eq, Int.not_lt, Int.not_le, Decidable.not_not] at hc16); simp at hc16
    · try simp only [decide_eq_true_eq, decide_eq_false_iff_not, Bool.not_eq_true', Bool.not_eq_false', Bool.not_eq_eq_eq_not, Bool.not_true, Bool.not_false, Bool.and_eq_true, Bool.or_eq_true, Bool.or_eq_false_iff, beq_iff_eq, beq_eq_false_iff_ne, ne_eq, Int.not_lt, Int.not_le, Decidable.not_not] at hc16
      refine g_skip ?_
      refine g_next hK0 ?_
      refine g_region ?_
      refine g_step rfl (s_val (v_move rfl) rfl rfl ?_)
      refine g_step rfl (s_val (v_nilCheck rfl rfl) rfl rfl ?_)
      refine g_step rfl (s_val (by first | exact v_fieldAddr ty119 fo119_0 ty117 rfl | exact v_fieldAddr_box ty119 fo119_0 ty117 rfl) rfl rfl ?_)
      refine g_step rfl (s_val (by first | exact v_load ty117 rfl rfl (by first | rfl | assumption) (by first | assumption | exact map_get (by assumption) | rfl) rfl | exact v_load_box ty117 rfl rfl (by assumption) rfl) rfl rfl ?_)
      refine g_step rfl (s_val (v_move rfl) rfl rfl ?_)
      refine g_step rfl (s_val (v_move rfl) rfl rfl ?_)
      refine g_step rfl (s_val (v_move rfl) rfl rfl ?_)
      refine g_step rfl (s_val (v_move rfl) rfl rfl ?_)
      refine g_step rfl (s_val (v_build (vs := [(0, _), (1, _), (2, _)]) (zs := [(.int .i64 0), (.int .i64 0), (.int .i64 0)]) (cells := [_, _, _]) ty32 pl32 rfl rfl rfl) rfl rfl ?_)
      refine g_step rfl (s_val (v_build (vs := [(0, _)]) (zs := [(.int .i64 0), (.int .i64 0), (.int .i64 0)]) (cells := [_, _, _]) ty121 pl121 rfl rfl rfl) rfl rfl ?_)
      refine g_step rfl (s_mapUpdate ty117 ty3 rfl rfl rfl hR (.inl rfl) ?_)
      rw [show mput (mmap encAl m) id (.agg [.int .i64 id, .int .i64 inc, .int .i64 at']) = mmap encAl (pput m id ⟨id, inc, at'⟩) from mput_mmap encAl id ⟨id, inc, at'⟩ m]
      refine g_nil ?_
      refine g_end0 (.inr rfl) Try.results13  [(r, tmRow (pput m id ⟨id, inc, at'⟩))]  (AHeap.sub_refl _) (fun q hq => .inl (by simp at hq; subst hq; rw [hR0]; simp)) ⟨rfl, rfl⟩

theorem tmDrop_ok (p r : Nat) (m : TM) (id : Int) (G : AHeap) (hG : G p = some (.box (.agg [.map r]))) (hR : G r = some (tmRow m)) : LCalls Try.prog 15 [.box p 0, .int .i64 id] G (· = r) (fun n v effs => v = .tup [] ∧ effs = [(r, tmRow (pdel m id))]) := by
  refine LCalls.intro 11 fi15 rfl Try.ntmps15 rfl (fun b hb => by subst hb; rw [hR]; simp) (fun H hH w0 hw0 => ?_)
  have hR0 := hR
  have hG := hH _ _ hG
  have hR := hH _ _ hR
  refine g_seq (fun K0 hK0 => ?_)
  refine g_region ?_
  refine g_step rfl (s_val (v_move rfl) rfl rfl ?_)
  refine g_step rfl (s_val (by first | exact v_ptr_neq_nil ty24 rfl rfl rfl | exact v_nil_neq_nil ty24 rfl rfl | exact v_ptrO_neq ty24 rfl rfl) rfl rfl ?_)
  refine g_nil ?_
  refine g_next hK0 ?_
  refine g_cond rfl (fun hc5 => ?_) (fun hc5 => ?_)
  · try simp only [decide_eq_true_eq, decide_eq_false_iff_not, Bool.not_eq_true', Bool.not_eq_false', Bool.not_eq_eq_eq_not, Bool.not_true, Bool.not_false, Bool.and_eq_true, Bool.or_eq_true, Bool.or_eq_false_iff, beq_iff_eq, beq_eq_false_iff_ne, ne_eq, Int.not_lt, Int.not_le, Decidable.not_not] at hc5
    refine g_region ?_
    refine g_step rfl (s_val (v_move rfl) rfl rfl ?_)
    refine g_step rfl (s_val (v_nilCheck rfl rfl) rfl rfl ?_)
    refine g_step rfl (s_val (by first | exact v_fieldAddr ty119 fo119_0 ty117 rfl | exact v_fieldAddr_box ty119 fo119_0 ty117 rfl) rfl rfl ?_)
    refine g_step rfl (s_val (by first | exact v_load ty117 rfl rfl (by first | rfl | assumption) (by first | assumption | exact map_get (by assumption) | rfl) rfl | exact v_load_box ty117 rfl rfl (by assumption) rfl) rfl rfl ?_)
    refine g_step rfl (s_val (v_move rfl) rfl rfl ?_)
    refine g_step rfl (s_mapDelete_none ty117 ty3 rfl rfl hR (.inl rfl) ?_)
    rw [mdel_mmap]
    refine g_nil ?_
    refine g_end0 (.inr rfl) Try.results15  [(r, tmRow (pdel m id))]  (AHeap.sub_refl _) (fun q hq => .inl (by simp at hq; subst hq; rw [hR0]; simp)) ⟨rfl, rfl⟩
  · exfalso; (try simp only [decide_eq_true_eq, decide_eq_false_iff_not, Bool.not_eq_true', Bool.not_eq_false', Bool.not_eq_eq_eq_not, Bool.not_true, Bool.not_false, Bool.and_eq_true, Bool.or_eq_true, Bool.or_eq_false_iff, beq_iff_eq, beq_eq_false_iff_ne, ne_eq, Int.not_lt, Int.not_le, Decidable.not_not] at hc5); simp at hc5

theorem tmGet_ok (p r : Nat) (m : TM) (id : Int) (G : AHeap) (hG : G p = some (.box (.agg [.map r]))) (hR : G r = some (tmRow m)) : PCalls Try.prog 20 [.box p 0, .int .i64 id] G (fun v => v = .tup [encAl (alOf m id), .bool (pget m id).isSome]) := by
  refine LCalls.intro 23 fi20 rfl Try.ntmps20 rfl (fun _ h => h.elim) (fun H hH w0 hw0 => ?_)
  have hG := hH _ _ hG
  have hR := hH _ _ hR
  refine g_seq (fun K0 hK0 => ?_)
  refine g_region ?_
  refine g_step rfl (s_alloc (av := (.agg [(.int .i64 0), (.int .i64 0), (.int .i64 0)])) ty32 rfl rfl rfl rfl ?_)
  refine g_step rfl (s_val (v_assign rfl) rfl rfl ?_)
  refine g_nil ?_
  refine g_next hK0 ?_
  refine g_seq (fun K1 hK1 => ?_)
  refine g_seq (fun K2 hK2 => ?_)
  refine g_region ?_
  refine g_step rfl (s_val (v_move rfl) rfl rfl ?_)
  refine g_step rfl (s_val (by first | exact v_ptr_eql_nil ty24 rfl rfl rfl | exact v_nil_eql_nil ty24 rfl rfl | exact v_ptrO_eql ty24 rfl rfl) rfl rfl ?_)
  refine g_nil ?_
  refine g_next hK2 ?_
  refine g_cond rfl (fun hc9 => ?_) (fun hc9 => ?_)
  · exfalso; (try simp only [decide_eq_true_eq, decide_eq_false_iff_not, Bool.not_eq_true', Bool.not_eq_false', Bool.not_eq_eq_eq_not, Bool.not_true, Bool.not_false, Bool.and_eq_true, Bool.or_eq_true, Bool.or_eq_false_iff, beq_iff_eq, beq_eq_false_iff_ne, ne_eq, Int.not_lt, Int.not_le, Decidable.not_not] at hc9); simp at hc9
  · try simp only [decide_eq_true_eq, decide_eq_false_iff_not, Bool.not_eq_true', Bool.not_eq_false', Bool.not_eq_eq_eq_not, Bool.not_true, Bool.not_false, Bool.and_eq_true, Bool.or_eq_true, Bool.or_eq_false_iff, beq_iff_eq, beq_eq_false_iff_ne, ne_eq, Int.not_lt, Int.not_le, Decidable.not_not] at hc9
    refine g_skip ?_
    refine g_next hK1 ?_
    refine g_seq (fun K3 hK3 => ?_)
    refine g_region ?_
    refine g_step rfl (s_val (v_move rfl) rfl rfl ?_)
    refine g_step rfl (s_val (v_nilCheck rfl rfl) rfl rfl ?_)
    refine g_step rfl (s_val (by first | exact v_fieldAddr ty119 fo119_0 ty117 rfl | exact v_fieldAddr_box ty119 fo119_0 ty117 rfl) rfl rfl ?_)
    refine g_step rfl (s_val (by first | exact v_load ty117 rfl rfl (by first | rfl | assumption) (by first | assumption | exact map_get (by assumption) | rfl) rfl | exact v_load_box ty117 rfl rfl (by assumption) rfl) rfl rfl ?_)
    refine g_step rfl (s_val (v_move rfl) rfl rfl ?_)
    refine g_step rfl (s_val (v_lookup (o := (encAl (alOf m id))) (f := (pget m id).isSome) ty117 ty3 ty121 rfl rfl rfl hR (alook_eq m id) (alook_is m id)) rfl rfl ?_)
    refine g_step rfl (s_val (v_move rfl) rfl rfl ?_)
    refine g_step rfl (s_val (v_extract rfl rfl) rfl rfl ?_)
    refine g_step rfl (s_val (v_extract rfl rfl) rfl rfl ?_)
    refine g_step rfl (s_alloc (av := (.agg [(.int .i64 0), (.int .i64 0), (.int .i64 0)])) ty121 rfl rfl rfl rfl ?_)
    refine g_step rfl (s_store_all ty121 rfl rfl rfl rfl rfl rfl ?_)
    refine g_step rfl (s_val (v_assign rfl) rfl rfl ?_)
    refine g_nil ?_
    refine g_next hK3 ?_
    refine g_seq (fun K4 hK4 => ?_)
    refine g_region ?_
    refine g_step rfl (s_fieldAddr ty121 fo121_0 ty32 rfl rfl ?_)
    refine g_step rfl (s_val (by first | exact v_loadl_all ty32 rfl rfl rfl rfl rfl | exact v_loadl_part (cs := [_, _, _]) ty32 rfl rfl rfl rfl rfl rfl) rfl rfl ?_)
    refine g_step rfl (s_val (v_move rfl) rfl rfl ?_)
    refine g_step rfl (s_store_all ty32 rfl rfl rfl rfl rfl rfl ?_)
    refine g_step rfl (s_val (v_assign rfl) rfl rfl ?_)
    refine g_nil ?_
    refine g_next hK4 ?_
    refine g_ret ?_
    refine g_end2 (.inl rfl) Try.results20 (.agg ty32 rfl rfl rfl rfl rfl) (.tmp rfl) [] (ASub.refl _) (AHeap.sub_refl _) (fun p hp => by cases hp) ⟨rfl, ?_⟩
    rfl

theorem tmAll_ok (p r : Nat) (m : TM) (G : AHeap) (hG : G p = some (.box (.agg [.map r]))) (hR : G r = some (tmRow m)) (hm : m.length ≤ 100000) : PCalls Try.prog 19 [.box p 0] G (fun v => v = .imm ((tmAll m).map encAl)) := by
  refine LCalls.intro 43 fi19 rfl Try.ntmps19 rfl (fun _ h => h.elim) (fun H hH w0 hw0 => ?_)
  have hG := hH _ _ hG
  have hR := hH _ _ hR
  refine g_seq (fun K0 hK0 => ?_)
  refine g_region ?_
  refine g_step rfl (s_val (v_assign rfl) rfl rfl ?_)
  refine g_nil ?_
  refine g_next hK0 ?_
  refine g_seq (fun K1 hK1 => ?_)
  refine g_seq (fun K2 hK2 => ?_)
  refine g_region ?_
  refine g_step rfl (s_val (v_move rfl) rfl rfl ?_)
  refine g_step rfl (s_val (by first | exact v_ptr_eql_nil ty24 rfl rfl rfl | exact v_nil_eql_nil ty24 rfl rfl | exact v_ptrO_eql ty24 rfl rfl) rfl rfl ?_)
  refine g_nil ?_
  refine g_next hK2 ?_
  refine g_cond rfl (fun hc9 => ?_) (fun hc9 => ?_)
  · exfalso; (try simp only [decide_eq_true_eq, decide_eq_false_iff_not, Bool.not_eq_true', Bool.not_eq_false', Bool.not_eq_eq_eq_not, Bool.not_true, Bool.not_false, Bool.and_eq_true, Bool.or_eq_true, Bool.or_eq_false_iff, beq_iff_eq, beq_eq_false_iff_ne, ne_eq, Int.not_lt, Int.not_le, Decidable.not_not] at hc9); simp at hc9
  · try simp only [decide_eq_true_eq, decide_eq_false_iff_not, Bool.not_eq_true', Bool.not_eq_false', Bool.not_eq_eq_eq_not, Bool.not_true, Bool.not_false, Bool.and_eq_true, Bool.or_eq_true, Bool.or_eq_false_iff, beq_iff_eq, beq_eq_false_iff_ne, ne_eq, Int.not_lt, Int.not_le, Decidable.not_not] at hc9
    refine g_skip ?_
    refine g_next hK1 ?_
    refine g_seq (fun K3 hK3 => ?_)
    refine g_region ?_
    refine g_step rfl (s_val (v_assign rfl) rfl rfl ?_)
    refine g_nil ?_
    refine g_next hK3 ?_
    refine g_seq (fun K4 hK4 => ?_)
    refine g_seq (fun K5 hK5 => ?_)
    refine g_region ?_
    refine g_step rfl (s_val (v_move rfl) rfl rfl ?_)
    refine g_step rfl (s_val (v_nilCheck rfl rfl) rfl rfl ?_)
    refine g_step rfl (s_val (by first | exact v_fieldAddr ty119 fo119_0 ty117 rfl | exact v_fieldAddr_box ty119 fo119_0 ty117 rfl) rfl rfl ?_)
    refine g_step rfl (s_val (by first | exact v_load ty117 rfl rfl (by first | rfl | assumption) (by first | assumption | exact map_get (by assumption) | rfl) rfl | exact v_load_box ty117 rfl rfl (by assumption) rfl) rfl rfl ?_)
    refine g_mapb hR (fun bs clk hbl hbc hbp => ?_)
    refine g_step rfl (s_range ty117 rfl rfl (AHeap.get_set _ _ _) (fun bi hbi1 hbi2 => ?_))
    have hbir : bi ≠ r := fun e => by subst e; rw [AHeap.get_set] at hbi1; cases hbi1
    have hbl' : bs.length = m.length := by simpa [mmap] using hbl
    refine g_nil ?_
    refine g_next hK5 ?_
    refine g_block ?_
    first | refine g_keep [0, 3, 14] [] [] (keep_cons rfl (keep_cons rfl (keep_cons rfl keep_nil))) lkeep_nil keep_nil rfl ?_ | refine g_keep [0, 3, 14] [] [] rfl rfl rfl rfl ?_
    refine g_loop (fun n env L B G => ∃ (k : Nat) (J : List Nat) (last : Nat) (ids : List Int) (av : AV), k ≤ m.length ∧ n = m.length - k ∧ env = [(0, .box p 0), (3, av), (14, .box bi 0)] ∧ L = [] ∧ B = [] ∧ Own w0.heap.size 1 ((H.set r (.mapb ((mmap encAl m).map fun p => ((.int .i64 p.1 : AV), p.2)) bs clk)).set bi (.iter r clk (J.map fun j => (bs[j]?).getD 0) last)) av (ids.map (.int .i64)) G ∧ J.length = k ∧ J.Nodup ∧ (∀ j ∈ J, j < m.length) ∧ ids = J.map (atOr m) ∧ clk ≤ last) (m.length) ⟨0, [], clk, [], .nil0, Nat.zero_le _, rfl, rfl, rfl, rfl, ⟨Own.nil .., rfl, List.nodup_nil, (fun j h => by cases h), rfl, Nat.le_refl _⟩⟩ (fun n env L B G hI => ?_)
    obtain ⟨k, J, last, ids, av, hk, rfl, rfl, rfl, rfl, hown, hJl, hJn, hJb, hids, hlast⟩ := hI
    have hGi := hown.sub _ _ (AHeap.get_set _ bi _)
    have hGm := hown.sub r _ (by rw [AHeap.get_set_ne _ _ (Ne.symm hbir), AHeap.get_set])
    refine g_seq (fun K6 hK6 => ?_)
    refine g_region ?_
    refine g_step rfl (s_next rfl rfl hGm hGi hbc hlast (.inr hbi2) (fun hall => ?_) (fun ix hi hb hns => ?_))
    · skip
      skip
      refine g_step rfl (s_val (v_extract rfl rfl) rfl rfl ?_)
      refine g_nil ?_
      refine g_next hK6 ?_
      refine g_seq (fun K7 hK7 => ?_)
      refine g_cond rfl (fun hc16 => ?_) (fun hc16 => ?_)
      · exfalso; (try simp only [decide_eq_true_eq, decide_eq_false_iff_not, Bool.not_eq_true', Bool.not_eq_false', Bool.not_eq_eq_eq_not, Bool.not_true, Bool.not_false, Bool.and_eq_true, Bool.or_eq_true, Bool.or_eq_false_iff, beq_iff_eq, beq_eq_false_iff_ne, ne_eq, Int.not_lt, Int.not_le, Decidable.not_not] at hc16); cases hc16
      · try simp only [decide_eq_true_eq, decide_eq_false_iff_not, Bool.not_eq_true', Bool.not_eq_false', Bool.not_eq_eq_eq_not, Bool.not_true, Bool.not_false, Bool.and_eq_true, Bool.or_eq_true, Bool.or_eq_false_iff, beq_iff_eq, beq_eq_false_iff_ne, ne_eq, Int.not_lt, Int.not_le, Decidable.not_not] at hc16
        refine g_exit ?_
        refine g_then_exit ?_
        refine g_then_exit ?_
        refine g_block_same ?_
        refine g_next hK4 ?_
        refine g_cut (fun env L B G => env = [(0, .box p 0), (3, .imm ((pkeys m).map (.int .i64)))] ∧ L = [] ∧ B = [] ∧ H = G) ?_ (fun env L B G hI => ?_)
        · skip
          refine g_region ?_
          have hperm := collected hbl' hbp hJn hJb hall
          rw [← hids] at hperm
          have hsort : (ids.mergeSort fun x y => decide (x ≤ y)) = pkeys m := mergeSort_perm hperm
          have hidl : ids.length ≤ 100000 := by rw [hperm.length_eq, List.length_map]; exact hm
          refine g_unmapb hGm ?_
          have hown3 := own_put (.map ((mmap encAl m).map fun p => ((.int .i64 p.1 : AV), p.2))) hown (show _ = some _ by rw [AHeap.get_set_ne _ _ (Ne.symm hbir), AHeap.get_set])
          have hsubB : H.sub (((H.set r (.mapb ((mmap encAl m).map fun p => ((.int .i64 p.1 : AV), p.2)) bs clk)).set bi (.iter r clk (J.map fun j => (bs[j]?).getD 0) last)).set r (.map ((mmap encAl m).map fun p => ((.int .i64 p.1 : AV), p.2)))) := sub_ranged hR hbi1
          refine g_step rfl (s_val (v_move rfl) rfl rfl ?_)
          rcases hown3 with ⟨e1, e2, e3⟩ | ⟨rr, e1, e2, e3, e4⟩
          · skip
            subst e1
            refine g_step rfl (s_callp rfl rfl rfl (sortNil_ok _) ?_)
            rintro _ rfl
            refine g_nil ?_
            refine g_freezeV (sz := 1) (l := ((pkeys m).map (.int .i64))) (H := H) 3 rfl (.inl ⟨rfl, by rw [← hsort]; have h0 : ids = [] := (by simpa using e2); rw [h0]; simp⟩) (by rw [e3]; exact hsubB) (fun _ _ h' => by cases h') ?_
            first | refine g_keep [0, 3] [] [] (keep_cons rfl (keep_cons rfl keep_nil)) lkeep_nil keep_nil rfl ?_ | refine g_keep [0, 3] [] [] rfl rfl rfl rfl ?_
            exact g_has ⟨rfl, rfl, rfl, rfl⟩
          · skip
            rw [List.length_map] at e3
            subst e3
            rw [e4]
            have hHrr := sub_none hsubB e1
            refine g_step rfl (s_call rfl rfl rfl (sortInts_ok rr ids _ (AHeap.get_set _ _ _) (by omega)) (fun b hb => .inr (by subst hb; exact e2)) ?_)
            rintro n5 _ effs5 hn5 hdom5 ⟨rfl, rfl⟩ hok5
            refine g_nil ?_
            refine g_freezeV (sz := 1) (l := ((pkeys m).map (.int .i64))) (H := H) 3 rfl (.inr ⟨rr, by rw [← hsort]; simp, by rw [← hsort]; exact AHeap.get_set _ _ _⟩) (sub_set_free _ (sub_set_free _ hsubB hHrr) hHrr) (fun _ _ h' => by cases h'; exact hHrr) ?_
            first | refine g_keep [0, 3] [] [] (keep_cons rfl (keep_cons rfl keep_nil)) lkeep_nil keep_nil rfl ?_ | refine g_keep [0, 3] [] [] rfl rfl rfl rfl ?_
            exact g_has ⟨rfl, rfl, rfl, rfl⟩
        · skip
          obtain ⟨rfl, rfl, rfl, rfl⟩ := hI
          refine g_seq (fun K8 hK8 => ?_)
          refine g_region ?_
          refine g_step rfl (s_val (v_assign rfl) rfl rfl ?_)
          refine g_nil ?_
          refine g_next hK8 ?_
          refine g_seq (fun K9 hK9 => ?_)
          refine g_seq (fun K10 hK10 => ?_)
          refine g_region ?_
          refine g_step rfl (s_val (v_move rfl) rfl rfl ?_)
          refine g_step rfl (s_val (v_len ty41 rfl (by first | rfl | assumption) (by first | exact List.length_map .. | rfl)) rfl rfl ?_)
          refine g_step rfl (s_val (v_move rfl) rfl rfl ?_)
          refine g_nil ?_
          refine g_next hK10 ?_
          refine g_block ?_
          first | refine g_keep [0, 5, 25, 26, 27] [] [] (keep_cons rfl (keep_cons rfl (keep_cons rfl (keep_cons rfl (keep_cons rfl keep_nil))))) lkeep_nil keep_nil rfl ?_ | refine g_keep [0, 5, 25, 26, 27] [] [] rfl rfl rfl rfl ?_
          refine g_loop (fun n env L B G => ∃ (k : Nat) (av5 : AV), k ≤ (pkeys m).length ∧ n = (pkeys m).length - k ∧ env = [(0, .box p 0), (5, av5), (25, .imm ((pkeys m).map (.int .i64))), (26, .int .i64 ((pkeys m).length : Int)), (27, .int .i64 (k : Int))] ∧ L = [] ∧ B = [] ∧ Own w0.heap.size 3 H av5 ((((pkeys m).take k).map (alOf m)).map encAl) G) ((pkeys m).length) ⟨0, .nil0, Nat.zero_le _, rfl, rfl, rfl, rfl, Own.nil ..⟩ (fun n env L B G hI => ?_)
          obtain ⟨k, av5, hk, rfl, rfl, rfl, rfl, hown5⟩ := hI
          have hG5 := hown5.sub _ _ hG
          have hR5 := hown5.sub _ _ hR
          have hkl : (pkeys m).length ≤ 100000 := by rw [pkeys_length]; exact hm
          refine g_seq (fun K11 hK11 => ?_)
          refine g_region ?_
          refine g_step rfl (s_val (v_lss rfl rfl) rfl rfl ?_)
          refine g_nil ?_
          refine g_next hK11 ?_
          refine g_seq (fun K12 hK12 => ?_)
          refine g_cond rfl (fun hc28 => ?_) (fun hc28 => ?_)
          · try simp only [decide_eq_true_eq, decide_eq_false_iff_not, Bool.not_eq_true', Bool.not_eq_false', Bool.not_eq_eq_eq_not, Bool.not_true, Bool.not_false, Bool.and_eq_true, Bool.or_eq_true, Bool.or_eq_false_iff, beq_iff_eq, beq_eq_false_iff_ne, ne_eq, Int.not_lt, Int.not_le, Decidable.not_not] at hc28
            obtain ⟨z, hz⟩ := get_some (l := (pkeys m)) (k := k) (by omega)
            refine g_skip ?_
            refine g_next hK12 ?_
            refine g_seq (fun K13 hK13 => ?_)
            refine g_block ?_
            refine g_seq (fun K14 hK14 => ?_)
            refine g_region ?_
            refine g_step rfl (s_val (v_indexAddr ty41 ty3 rfl rfl (by first | rfl | assumption) (by first | rfl | exact (rfl : (0 : Int) = ((0 : Nat) : Int)) | exact (Int.toNat_of_nonneg (by omega)).symm) (by first | assumption | exact map_get (by assumption) | rfl) rfl) rfl rfl ?_)
            refine g_step rfl (s_val (by first | exact v_load ty3 rfl rfl (by first | rfl | assumption) (by first | assumption | exact map_get (by assumption) | rfl) rfl | exact v_load_box ty3 rfl rfl (by assumption) rfl) rfl rfl ?_)
            refine g_step rfl (s_val (v_assign rfl) rfl rfl ?_)
            refine g_nil ?_
            refine g_next hK14 ?_
            refine g_region ?_
            refine g_step rfl (s_val (v_move rfl) rfl rfl ?_)
            refine g_step rfl (s_val (v_move rfl) rfl rfl ?_)
            refine g_step rfl (s_val (v_nilCheck rfl rfl) rfl rfl ?_)
            refine g_step rfl (s_val (by first | exact v_fieldAddr ty119 fo119_0 ty117 rfl | exact v_fieldAddr_box ty119 fo119_0 ty117 rfl) rfl rfl ?_)
            refine g_step rfl (s_val (by first | exact v_load ty117 rfl rfl (by first | rfl | assumption) (by first | assumption | exact map_get (by assumption) | rfl) rfl | exact v_load_box ty117 rfl rfl (by assumption) rfl) rfl rfl ?_)
            refine g_step rfl (s_val (v_move rfl) rfl rfl ?_)
            refine g_step rfl (s_val (v_lookup (o := (encAl (alOf m z))) (f := (pget m z).isSome) ty117 ty3 ty121 rfl rfl rfl hR5 (alook_eq m z) (alook_is m z)) rfl rfl ?_)
            refine g_step rfl (s_val (v_field_agg (cs := [_, _, _]) ty121 fo121_0 ty32 rfl rfl rfl) rfl rfl ?_)
            refine g_step rfl (s_lit ty26 ty32 rfl rfl rfl rfl rfl rfl rfl ?_)
            refine g_step rfl (s_append (l := ((((pkeys m).take k).map (alOf m)).map encAl)) (m := ([alOf m z].map encAl)) ty26 ty32 rfl rfl hown5 rfl rfl (by refine Even.map _ ?_ _; intro _; rfl) (by intro x hx; obtain ⟨_, _, rfl⟩ := List.mem_map.1 hx; rfl) rfl (by simp; omega) (by simp; omega) ?_)
            intro av40 G40 h40
            refine g_step rfl (s_val (v_assign rfl) rfl rfl ?_)
            refine g_nil ?_
            refine g_block_normal ?_
            refine g_next hK13 ?_
            refine g_region ?_
            refine g_step rfl (s_val (v_add rfl rfl (by omega)) rfl rfl ?_)
            refine g_step rfl (s_val (v_move rfl) rfl rfl ?_)
            refine g_nil ?_
            first | refine g_keep [0, 5, 25, 26, 27] [] [] (keep_cons rfl (keep_cons rfl (keep_cons rfl (keep_cons rfl (keep_cons rfl keep_nil))))) lkeep_nil keep_nil rfl ?_ | refine g_keep [0, 5, 25, 26, 27] [] [] rfl rfl rfl rfl ?_
            exact g_round _ (by omega) ⟨k + 1, av40, by omega, rfl, rfl, rfl, rfl, by rw [List.take_add_one, hz, List.map_append, List.map_append]; exact h40⟩
          · try simp only [decide_eq_true_eq, decide_eq_false_iff_not, Bool.not_eq_true', Bool.not_eq_false', Bool.not_eq_eq_eq_not, Bool.not_true, Bool.not_false, Bool.and_eq_true, Bool.or_eq_true, Bool.or_eq_false_iff, beq_iff_eq, beq_eq_false_iff_ne, ne_eq, Int.not_lt, Int.not_le, Decidable.not_not] at hc28
            obtain rfl : k = (pkeys m).length := by omega
            rw [List.take_length] at hown5
            refine g_exit ?_
            refine g_then_exit ?_
            refine g_then_exit ?_
            refine g_block_same ?_
            refine g_next hK9 ?_
            refine g_seq (fun K15 hK15 => ?_)
            refine g_region ?_
            refine g_freeze 5 rfl hown5 ?_
            refine g_step rfl (s_val (v_move rfl) rfl rfl ?_)
            refine g_step rfl (s_val (v_assign rfl) rfl rfl ?_)
            refine g_nil ?_
            refine g_next hK15 ?_
            refine g_ret ?_
            refine g_end1 (.inl rfl) Try.results19 (.tmp rfl) [] (ASub.refl _) (AHeap.sub_refl _) (fun p hp => by cases hp) ⟨rfl, ?_⟩
            rfl
    · skip
      have hixJ := notin_map hb hns
      have hJn' : (J ++ [ix]).Nodup := List.nodup_append.2 ⟨hJn, by simp, fun a ha b hb' => by simp at hb'; subst hb'; exact fun e => hixJ (e ▸ ha)⟩
      have hil : ix < m.length := by simpa [mmap] using hi
      have hJb' : ∀ j ∈ J ++ [ix], j < m.length := fun j hj => by rcases List.mem_append.1 hj with h | h; exact hJb j h; simp at h; omega
      have hk1 := places_le hJn' hJb'
      have hidk : ids.length = k := by rw [hids, List.length_map, hJl]
      simp only [List.length_append, List.length_singleton, hJl] at hk1
      have hown2 := own_put (.iter r clk ((J.map fun j => (bs[j]?).getD 0) ++ [bs[ix]]) clk) hown (AHeap.get_set _ bi _)
      rw [AHeap.set_set] at hown2
      have hGi2 := hown2.sub _ _ (AHeap.get_set _ bi _)
      have hGm2 := hown2.sub r _ (by rw [AHeap.get_set_ne _ _ (Ne.symm hbir), AHeap.get_set])
      have hse : (J.map fun j => (bs[j]?).getD 0) ++ [bs[ix]] = (J ++ [ix]).map fun j => (bs[j]?).getD 0 := by simp [hb]
      have hat : (((mmap encAl m).map fun p => ((.int .i64 p.1 : AV), p.2))[ix]'hi).1 = .int .i64 (atOr m ix) := by simp [mmap, atOr, hil]
      refine g_step rfl (s_val (v_extract rfl rfl) rfl rfl ?_)
      refine g_nil ?_
      refine g_next hK6 ?_
      refine g_seq (fun K16 hK16 => ?_)
      refine g_cond rfl (fun hc16 => ?_) (fun hc16 => ?_)
      · try simp only [decide_eq_true_eq, decide_eq_false_iff_not, Bool.not_eq_true', Bool.not_eq_false', Bool.not_eq_eq_eq_not, Bool.not_true, Bool.not_false, Bool.and_eq_true, Bool.or_eq_true, Bool.or_eq_false_iff, beq_iff_eq, beq_eq_false_iff_ne, ne_eq, Int.not_lt, Int.not_le, Decidable.not_not] at hc16
        refine g_skip ?_
        refine g_next hK16 ?_
        refine g_block ?_
        refine g_seq (fun K17 hK17 => ?_)
        refine g_region ?_
        refine g_step rfl (s_val (v_entry rfl hGm2 hi hb hGi2) rfl rfl ?_)
        refine g_step rfl (s_val (v_extract rfl (congrArg some hat)) rfl rfl ?_)
        refine g_step rfl (s_val (v_assign rfl) rfl rfl ?_)
        refine g_nil ?_
        refine g_next hK17 ?_
        refine g_region ?_
        refine g_step rfl (s_val (v_move rfl) rfl rfl ?_)
        refine g_step rfl (s_val (v_move rfl) rfl rfl ?_)
        refine g_step rfl (s_lit ty41 ty3 rfl rfl rfl rfl rfl rfl rfl ?_)
        refine g_step rfl (s_append (l := (ids.map (.int .i64))) (m := ([atOr m ix].map (.int .i64))) ty41 ty3 rfl rfl hown2 rfl rfl (by refine Even.map _ ?_ _; intro _; rfl) (by intro x hx; obtain ⟨_, _, rfl⟩ := List.mem_map.1 hx; rfl) rfl (by simp; omega) (by simp; omega) ?_)
        intro av22 G22 h22
        rw [hse] at h22
        refine g_step rfl (s_val (v_assign rfl) rfl rfl ?_)
        refine g_nil ?_
        refine g_block_normal ?_
        first | refine g_keep [0, 3, 14] [] [] (keep_cons rfl (keep_cons rfl (keep_cons rfl keep_nil))) lkeep_nil keep_nil rfl ?_ | refine g_keep [0, 3, 14] [] [] rfl rfl rfl rfl ?_
        exact g_round _ (by omega) ⟨k + 1, J ++ [ix], clk, ids ++ [atOr m ix], av22, by omega, rfl, rfl, rfl, rfl, ⟨by rw [show (ids ++ [atOr m ix]).map (AV.int .i64) = ids.map (.int .i64) ++ [atOr m ix].map (.int .i64) from List.map_append]; exact h22, by simp [hJl], hJn', hJb', by rw [hids, List.map_append]; rfl, Nat.le_refl _⟩⟩
      · exfalso; (try simp only [decide_eq_true_eq, decide_eq_false_iff_not, Bool.not_eq_true', Bool.not_eq_false', Bool.not_eq_eq_eq_not, Bool.not_true, Bool.not_false, Bool.and_eq_true, Bool.or_eq_true, Bool.or_eq_false_iff, beq_iff_eq, beq_eq_false_iff_ne, ne_eq, Int.not_lt, Int.not_le, Decidable.not_not] at hc16); cases hc16

theorem tmDue_ok (p r : Nat) (m : TM) (now : Int) (G : AHeap) (hG : G p = some (.box (.agg [.map r]))) (hR : G r = some (tmRow m)) (hm : m.length ≤ 100000) : LCalls Try.prog 18 [.box p 0, .int .i64 now] G (· = r) (fun n v effs => v = .imm ((tmDue m now).map encAl) ∧ effs = [(r, tmRow (tmRest m now))]) := by
  refine LCalls.intro 29 fi18 rfl Try.ntmps18 rfl (fun b hb => by subst hb; rw [hR]; simp) (fun H hH w0 hw0 => ?_)
  have hR0 := hR
  have hG := hH _ _ hG
  have hR := hH _ _ hR
  have hpr : p ≠ r := fun e => by subst e; rw [hG] at hR; cases hR
  refine g_seq (fun K0 hK0 => ?_)
  refine g_region ?_
  refine g_step rfl (s_val (v_assign rfl) rfl rfl ?_)
  refine g_nil ?_
  refine g_next hK0 ?_
  refine g_seq (fun K1 hK1 => ?_)
  refine g_region ?_
  refine g_step rfl (s_val (v_assign rfl) rfl rfl ?_)
  refine g_nil ?_
  refine g_next hK1 ?_
  refine g_seq (fun K2 hK2 => ?_)
  refine g_seq (fun K3 hK3 => ?_)
  refine g_region ?_
  refine g_step rfl (s_val (v_move rfl) rfl rfl ?_)
  refine g_step rfl (s_callp rfl rfl rfl (tmAll_ok p r m _ hG hR hm) ?_)
  rintro _ rfl
  refine g_step rfl (s_val (v_len ty26 rfl (by first | rfl | assumption) (by first | exact List.length_map .. | rfl)) rfl rfl ?_)
  refine g_step rfl (s_val (v_move rfl) rfl rfl ?_)
  refine g_nil ?_
  refine g_next hK3 ?_
  refine g_block ?_
  first | refine g_keep [0, 1, 5, 9, 10, 11] [] [] (keep_cons rfl (keep_cons rfl (keep_cons rfl (keep_cons rfl (keep_cons rfl (keep_cons rfl keep_nil)))))) lkeep_nil keep_nil rfl ?_ | refine g_keep [0, 1, 5, 9, 10, 11] [] [] rfl rfl rfl rfl ?_
  refine g_loop (fun n env L B G => ∃ (k : Nat) (av5 : AV), k ≤ (tmAll m).length ∧ n = (tmAll m).length - k ∧ env = [(0, .box p 0), (1, .int .i64 now), (5, av5), (9, .imm ((tmAll m).map encAl)), (10, .int .i64 ((tmAll m).length : Int)), (11, .int .i64 (k : Int))] ∧ L = [] ∧ B = [] ∧ Own w0.heap.size 3 (H.set r (tmRow (delN m now k))) av5 ((((tmAll m).take k).filter (fun a : Al => decide (a.t ≤ now))).map encAl) G) ((tmAll m).length) ⟨0, .nil0, Nat.zero_le _, rfl, rfl, rfl, rfl, by rw [show H.set r (tmRow (delN m now 0)) = H from AHeap.set_same _ _ _ hR]; exact Own.nil ..⟩ (fun n env L B G hI => ?_)
  obtain ⟨k, av5, hk, rfl, rfl, rfl, rfl, hown⟩ := hI
  have hml : (tmAll m).length ≤ 100000 := by rw [tmAll_length]; exact hm
  have hfl := List.length_filter_le (fun a : Al => decide (a.t ≤ now)) ((tmAll m).take k)
  have hftl : ((tmAll m).take k).length ≤ k := List.length_take_le _ _
  refine g_seq (fun K4 hK4 => ?_)
  refine g_region ?_
  refine g_step rfl (s_val (v_lss rfl rfl) rfl rfl ?_)
  refine g_nil ?_
  refine g_next hK4 ?_
  refine g_seq (fun K5 hK5 => ?_)
  refine g_cond rfl (fun hc12 => ?_) (fun hc12 => ?_)
  · try simp only [decide_eq_true_eq, decide_eq_false_iff_not, Bool.not_eq_true', Bool.not_eq_false', Bool.not_eq_eq_eq_not, Bool.not_true, Bool.not_false, Bool.and_eq_true, Bool.or_eq_true, Bool.or_eq_false_iff, beq_iff_eq, beq_eq_false_iff_ne, ne_eq, Int.not_lt, Int.not_le, Decidable.not_not] at hc12
    obtain ⟨x, hx⟩ := get_some (l := (tmAll m)) (k := k) (by omega)
    refine g_skip ?_
    refine g_next hK5 ?_
    refine g_seq (fun K6 hK6 => ?_)
    refine g_block ?_
    refine g_seq (fun K7 hK7 => ?_)
    refine g_region ?_
    refine g_step rfl (s_val (v_indexAddr ty26 ty32 rfl rfl (by first | rfl | assumption) (by first | rfl | exact (rfl : (0 : Int) = ((0 : Nat) : Int)) | exact (Int.toNat_of_nonneg (by omega)).symm) (by first | assumption | exact map_get (by assumption) | rfl) rfl) rfl rfl ?_)
    refine g_step rfl (s_val (by first | exact v_load_elt ty32 rfl rfl (by first | rfl | assumption) (by first | assumption | exact map_get (by assumption) | rfl) rfl rfl | exact v_load_box_all ty32 rfl rfl (by assumption) rfl rfl | exact v_load_part (cs := [_, _, _]) ty32 rfl rfl (by first | rfl | assumption) (by first | assumption | exact map_get (by assumption) | rfl) rfl rfl rfl | exact v_load_box_part (cs := [_, _, _]) ty32 rfl rfl (by assumption) rfl rfl rfl) rfl rfl ?_)
    refine g_step rfl (s_alloc (av := (.agg [(.int .i64 0), (.int .i64 0), (.int .i64 0)])) ty32 rfl rfl rfl rfl ?_)
    refine g_step rfl (s_store_all ty32 rfl rfl rfl rfl rfl rfl ?_)
    refine g_nil ?_
    refine g_next hK7 ?_
    refine g_seq (fun K8 hK8 => ?_)
    refine g_region ?_
    refine g_step rfl (s_fieldAddr ty32 fo32_2 ty3 rfl rfl ?_)
    refine g_step rfl (s_val (v_loadl ty3 rfl rfl rfl rfl) rfl rfl ?_)
    refine g_step rfl (s_val (v_move rfl) rfl rfl ?_)
    refine g_step rfl (s_val (v_leq rfl rfl) rfl rfl ?_)
    refine g_nil ?_
    refine g_next hK8 ?_
    refine g_cond rfl (fun hc18 => ?_) (fun hc18 => ?_)
    · try simp only [decide_eq_true_eq, decide_eq_false_iff_not, Bool.not_eq_true', Bool.not_eq_false', Bool.not_eq_eq_eq_not, Bool.not_true, Bool.not_false, Bool.and_eq_true, Bool.or_eq_true, Bool.or_eq_false_iff, beq_iff_eq, beq_eq_false_iff_ne, ne_eq, Int.not_lt, Int.not_le, Decidable.not_not] at hc18
      refine g_seq (fun K9 hK9 => ?_)
      refine g_region ?_
      refine g_step rfl (s_val (v_move rfl) rfl rfl ?_)
      refine g_step rfl (s_val (by first | exact v_loadl_all ty32 rfl rfl rfl rfl rfl | exact v_loadl_part (cs := [_, _, _]) ty32 rfl rfl rfl rfl rfl rfl) rfl rfl ?_)
      refine g_step rfl (s_lit ty26 ty32 rfl rfl rfl rfl rfl rfl rfl ?_)
      refine g_step rfl (s_append (l := ((((tmAll m).take k).filter (fun a : Al => decide (a.t ≤ now))).map encAl)) (m := ([x].map encAl)) ty26 ty32 rfl rfl hown rfl rfl (by refine Even.map _ ?_ _; intro _; rfl) (by intro x hx; obtain ⟨_, _, rfl⟩ := List.mem_map.1 hx; rfl) rfl (by simp; omega) (by simp; omega) ?_)
      intro av22 G22 h22
      have hG6 := h22.sub _ _ ((AHeap.get_set_ne _ _ hpr).trans hG)
      have hR6 := h22.sub r _ (AHeap.get_set _ _ _)
      refine g_step rfl (s_val (v_assign rfl) rfl rfl ?_)
      refine g_nil ?_
      refine g_next hK9 ?_
      refine g_region ?_
      refine g_step rfl (s_val (v_move rfl) rfl rfl ?_)
      refine g_step rfl (s_fieldAddr ty32 fo32_0 ty3 rfl rfl ?_)
      refine g_step rfl (s_val (v_loadl ty3 rfl rfl rfl rfl) rfl rfl ?_)
      refine g_step rfl (s_call rfl rfl rfl (tmDrop_ok p r (delN m now k) x.id _ hG6 hR6) (fun b hb => .inl hb) ?_)
      rintro n26 r26 effs26 hn26 hdom26 ⟨rfl, rfl⟩ hok26
      rw [delN_hit hx hc18]
      have h27 := own_put (tmRow (delN m now (k + 1))) h22 (AHeap.get_set _ _ _)
      rw [AHeap.set_set] at h27
      refine g_nil ?_
      refine g_block_normal ?_
      refine g_next hK6 ?_
      refine g_region ?_
      refine g_step rfl (s_val (v_add rfl rfl (by omega)) rfl rfl ?_)
      refine g_step rfl (s_val (v_move rfl) rfl rfl ?_)
      refine g_nil ?_
      first | refine g_keep [0, 1, 5, 9, 10, 11] [] [] (keep_cons rfl (keep_cons rfl (keep_cons rfl (keep_cons rfl (keep_cons rfl (keep_cons rfl keep_nil)))))) lkeep_nil keep_nil rfl ?_ | refine g_keep [0, 1, 5, 9, 10, 11] [] [] rfl rfl rfl rfl ?_
      first | exact g_round _ (by omega) ⟨k + 1, av22, by omega, rfl, rfl, rfl, rfl, by rw [filter_snoc hx, if_pos (by simpa using hc18), List.map_append]; exact h27⟩ | exact g_round _ (by omega) ⟨k + 1, av5, by omega, rfl, rfl, rfl, rfl, by rw [filter_snoc hx, if_neg (by simpa using hc18), List.append_nil, delN_miss hx (by omega)]; exact hown⟩
    · try simp only [decide_eq_true_eq, decide_eq_false_iff_not, Bool.not_eq_true', Bool.not_eq_false', Bool.not_eq_eq_eq_not, Bool.not_true, Bool.not_false, Bool.and_eq_true, Bool.or_eq_true, Bool.or_eq_false_iff, beq_iff_eq, beq_eq_false_iff_ne, ne_eq, Int.not_lt, Int.not_le, Decidable.not_not] at hc18
      refine g_skip ?_
      refine g_block_normal ?_
      refine g_next hK6 ?_
      refine g_region ?_
      refine g_step rfl (s_val (v_add rfl rfl (by omega)) rfl rfl ?_)
      refine g_step rfl (s_val (v_move rfl) rfl rfl ?_)
      refine g_nil ?_
      first | refine g_keep [0, 1, 5, 9, 10, 11] [] [] (keep_cons rfl (keep_cons rfl (keep_cons rfl (keep_cons rfl (keep_cons rfl (keep_cons rfl keep_nil)))))) lkeep_nil keep_nil rfl ?_ | refine g_keep [0, 1, 5, 9, 10, 11] [] [] rfl rfl rfl rfl ?_
      first | exact g_round _ (by omega) ⟨k + 1, av22, by omega, rfl, rfl, rfl, rfl, by rw [filter_snoc hx, if_pos (by simpa using hc18), List.map_append]; exact h27⟩ | exact g_round _ (by omega) ⟨k + 1, av5, by omega, rfl, rfl, rfl, rfl, by rw [filter_snoc hx, if_neg (by simpa using hc18), List.append_nil, delN_miss hx (by omega)]; exact hown⟩
  · try simp only [decide_eq_true_eq, decide_eq_false_iff_not, Bool.not_eq_true', Bool.not_eq_false', Bool.not_eq_eq_eq_not, Bool.not_true, Bool.not_false, Bool.and_eq_true, Bool.or_eq_true, Bool.or_eq_false_iff, beq_iff_eq, beq_eq_false_iff_ne, ne_eq, Int.not_lt, Int.not_le, Decidable.not_not] at hc12
    obtain rfl : k = (tmAll m).length := by omega
    rw [delN_end, List.take_length] at hown
    refine g_exit ?_
    refine g_then_exit ?_
    refine g_then_exit ?_
    refine g_block_same ?_
    refine g_next hK2 ?_
    refine g_seq (fun K10 hK10 => ?_)
    refine g_region ?_
    refine g_freeze 5 rfl hown ?_
    refine g_step rfl (s_val (v_move rfl) rfl rfl ?_)
    refine g_step rfl (s_val (v_assign rfl) rfl rfl ?_)
    refine g_nil ?_
    refine g_next hK10 ?_
    refine g_ret ?_
    refine g_end1 (.inl rfl) Try.results18 (.tmp rfl) [(r, tmRow (tmRest m now))] (ASub.refl _) (AHeap.sub_refl _) (fun q hq => .inl (by simp at hq; subst hq; rw [hR0]; simp)) ⟨rfl, rfl⟩

theorem aWithout_ok (l : List Al) (id : Int) (G : AHeap) (va : AV) (hva : va.view G = some (l.map encAl)) (hl : l.length ≤ 100000) : PCalls Try.prog 16 [va, .int .i64 id] G (fun v => v = .imm ((aWithout l id).map encAl)) := by
  refine LCalls.intro 28 fi16 rfl Try.ntmps16 rfl (fun _ h => h.elim) (fun H hH w0 hw0 => ?_)
  have hva := view_sub hH hva
  refine g_seq (fun K0 hK0 => ?_)
  refine g_region ?_
  refine g_step rfl (s_val (v_assign rfl) rfl rfl ?_)
  refine g_nil ?_
  refine g_next hK0 ?_
  refine g_seq (fun K1 hK1 => ?_)
  refine g_region ?_
  refine g_step rfl (s_val (v_assign rfl) rfl rfl ?_)
  refine g_nil ?_
  refine g_next hK1 ?_
  refine g_seq (fun K2 hK2 => ?_)
  refine g_seq (fun K3 hK3 => ?_)
  refine g_region ?_
  refine g_step rfl (s_val (v_assign rfl) rfl rfl ?_)
  refine g_nil ?_
  refine g_next hK3 ?_
  refine g_block ?_
  first | refine g_keep [0, 1, 5, 6] [] [] (keep_cons rfl (keep_cons rfl (keep_cons rfl (keep_cons rfl keep_nil)))) lkeep_nil keep_nil rfl ?_ | refine g_keep [0, 1, 5, 6] [] [] rfl rfl rfl rfl ?_
  refine g_loop (fun n env L B G => ∃ (k : Nat) (av5 : AV), k ≤ l.length ∧ n = l.length - k ∧ env = [(0, va), (1, .int .i64 id), (5, av5), (6, .int .i64 (k : Int))] ∧ L = [] ∧ B = [] ∧ Own w0.heap.size 3 H av5 (((l.take k).filter (fun a : Al => !decide (a.id = id))).map encAl) G) (l.length) ⟨0, .nil0, Nat.zero_le _, rfl, rfl, rfl, rfl, Own.nil ..⟩ (fun n env L B G hI => ?_)
  obtain ⟨k, av5, hk, rfl, rfl, rfl, rfl, hown⟩ := hI
  have hva := view_sub hown.sub hva
  have hfl := List.length_filter_le (fun a : Al => !decide (a.id = id)) (l.take k)
  have hftl : (l.take k).length ≤ k := List.length_take_le _ _
  refine g_seq (fun K4 hK4 => ?_)
  refine g_seq (fun K5 hK5 => ?_)
  refine g_region ?_
  refine g_step rfl (s_val (v_move rfl) rfl rfl ?_)
  refine g_step rfl (s_val (v_move rfl) rfl rfl ?_)
  refine g_step rfl (s_val (v_len ty26 rfl (by first | rfl | assumption) (by first | exact List.length_map .. | rfl)) rfl rfl ?_)
  refine g_step rfl (s_val (v_lss rfl rfl) rfl rfl ?_)
  refine g_nil ?_
  refine g_next hK5 ?_
  refine g_cond rfl (fun hc10 => ?_) (fun hc10 => ?_)
  · try simp only [decide_eq_true_eq, decide_eq_false_iff_not, Bool.not_eq_true', Bool.not_eq_false', Bool.not_eq_eq_eq_not, Bool.not_true, Bool.not_false, Bool.and_eq_true, Bool.or_eq_true, Bool.or_eq_false_iff, beq_iff_eq, beq_eq_false_iff_ne, ne_eq, Int.not_lt, Int.not_le, Decidable.not_not] at hc10
    obtain ⟨x, hx⟩ := get_some (l := l) (k := k) (by omega)
    refine g_skip ?_
    refine g_next hK4 ?_
    refine g_seq (fun K6 hK6 => ?_)
    refine g_block ?_
    refine g_seq (fun K7 hK7 => ?_)
    refine g_region ?_
    refine g_step rfl (s_val (v_move rfl) rfl rfl ?_)
    refine g_step rfl (s_val (v_move rfl) rfl rfl ?_)
    refine g_step rfl (s_val (v_indexAddr ty26 ty32 rfl rfl (by first | rfl | assumption) (by first | rfl | exact (rfl : (0 : Int) = ((0 : Nat) : Int)) | exact (Int.toNat_of_nonneg (by omega)).symm) (by first | assumption | exact map_get (by assumption) | rfl) rfl) rfl rfl ?_)
    refine g_step rfl (s_val (by first | exact v_fieldAddr ty32 fo32_0 ty3 rfl | exact v_fieldAddr_box ty32 fo32_0 ty3 rfl) rfl rfl ?_)
    refine g_step rfl (s_val (by first | exact v_load ty3 rfl rfl (by first | rfl | assumption) (by first | assumption | exact map_get (by assumption) | rfl) rfl | exact v_load_box ty3 rfl rfl (by assumption) rfl) rfl rfl ?_)
    refine g_step rfl (s_val (v_move rfl) rfl rfl ?_)
    refine g_step rfl (s_val (v_neq rfl rfl) rfl rfl ?_)
    refine g_nil ?_
    refine g_next hK7 ?_
    refine g_cond rfl (fun hc19 => ?_) (fun hc19 => ?_)
    · try simp only [decide_eq_true_eq, decide_eq_false_iff_not, Bool.not_eq_true', Bool.not_eq_false', Bool.not_eq_eq_eq_not, Bool.not_true, Bool.not_false, Bool.and_eq_true, Bool.or_eq_true, Bool.or_eq_false_iff, beq_iff_eq, beq_eq_false_iff_ne, ne_eq, Int.not_lt, Int.not_le, Decidable.not_not] at hc19
      refine g_region ?_
      refine g_step rfl (s_val (v_move rfl) rfl rfl ?_)
      refine g_step rfl (s_val (v_move rfl) rfl rfl ?_)
      refine g_step rfl (s_val (v_move rfl) rfl rfl ?_)
      refine g_step rfl (s_val (v_indexAddr ty26 ty32 rfl rfl (by first | rfl | assumption) (by first | rfl | exact (rfl : (0 : Int) = ((0 : Nat) : Int)) | exact (Int.toNat_of_nonneg (by omega)).symm) (by first | assumption | exact map_get (by assumption) | rfl) rfl) rfl rfl ?_)
      refine g_step rfl (s_val (by first | exact v_load_elt ty32 rfl rfl (by first | rfl | assumption) (by first | assumption | exact map_get (by assumption) | rfl) rfl rfl | exact v_load_box_all ty32 rfl rfl (by assumption) rfl rfl | exact v_load_part (cs := [_, _, _]) ty32 rfl rfl (by first | rfl | assumption) (by first | assumption | exact map_get (by assumption) | rfl) rfl rfl rfl | exact v_load_box_part (cs := [_, _, _]) ty32 rfl rfl (by assumption) rfl rfl rfl) rfl rfl ?_)
      refine g_step rfl (s_lit ty26 ty32 rfl rfl rfl rfl rfl rfl rfl ?_)
      refine g_step rfl (s_append (l := (((l.take k).filter (fun a : Al => !decide (a.id = id))).map encAl)) (m := ([x].map encAl)) ty26 ty32 rfl rfl hown rfl rfl (by refine Even.map _ ?_ _; intro _; rfl) (by intro x hx; obtain ⟨_, _, rfl⟩ := List.mem_map.1 hx; rfl) rfl (by simp; omega) (by simp; omega) ?_)
      intro av26 G26 h26
      refine g_step rfl (s_val (v_assign rfl) rfl rfl ?_)
      refine g_nil ?_
      refine g_block_normal ?_
      refine g_next hK6 ?_
      refine g_region ?_
      refine g_step rfl (s_val (v_move rfl) rfl rfl ?_)
      refine g_step rfl (s_val (v_add rfl rfl (by omega)) rfl rfl ?_)
      refine g_step rfl (s_val (v_assign rfl) rfl rfl ?_)
      refine g_nil ?_
      first | refine g_keep [0, 1, 5, 6] [] [] (keep_cons rfl (keep_cons rfl (keep_cons rfl (keep_cons rfl keep_nil)))) lkeep_nil keep_nil rfl ?_ | refine g_keep [0, 1, 5, 6] [] [] rfl rfl rfl rfl ?_
      first | exact g_round _ (by omega) ⟨k + 1, av26, by omega, rfl, rfl, rfl, rfl, by rw [filter_snoc hx, if_pos (by simpa using hc19), List.map_append]; exact h26⟩ | exact g_round _ (by omega) ⟨k + 1, av5, by omega, rfl, rfl, rfl, rfl, by rw [filter_snoc hx, if_neg (by simpa using hc19), List.append_nil]; exact hown⟩
    · try simp only [decide_eq_true_eq, decide_eq_false_iff_not, Bool.not_eq_true', Bool.not_eq_false', Bool.not_eq_eq_eq_not, Bool.not_true, Bool.not_false, Bool.and_eq_true, Bool.or_eq_true, Bool.or_eq_false_iff, beq_iff_eq, beq_eq_false_iff_ne, ne_eq, Int.not_lt, Int.not_le, Decidable.not_not] at hc19
      refine g_skip ?_
      refine g_block_normal ?_
      refine g_next hK6 ?_
      refine g_region ?_
      refine g_step rfl (s_val (v_move rfl) rfl rfl ?_)
      refine g_step rfl (s_val (v_add rfl rfl (by omega)) rfl rfl ?_)
      refine g_step rfl (s_val (v_assign rfl) rfl rfl ?_)
      refine g_nil ?_
      first | refine g_keep [0, 1, 5, 6] [] [] (keep_cons rfl (keep_cons rfl (keep_cons rfl (keep_cons rfl keep_nil)))) lkeep_nil keep_nil rfl ?_ | refine g_keep [0, 1, 5, 6] [] [] rfl rfl rfl rfl ?_
      first | exact g_round _ (by omega) ⟨k + 1, av26, by omega, rfl, rfl, rfl, rfl, by rw [filter_snoc hx, if_pos (by simpa using hc19), List.map_append]; exact h26⟩ | exact g_round _ (by omega) ⟨k + 1, av5, by omega, rfl, rfl, rfl, rfl, by rw [filter_snoc hx, if_neg (by simpa using hc19), List.append_nil]; exact hown⟩
  · try simp only [decide_eq_true_eq, decide_eq_false_iff_not, Bool.not_eq_true', Bool.not_eq_false', Bool.not_eq_eq_eq_not, Bool.not_true, Bool.not_false, Bool.and_eq_true, Bool.or_eq_true, Bool.or_eq_false_iff, beq_iff_eq, beq_eq_false_iff_ne, ne_eq, Int.not_lt, Int.not_le, Decidable.not_not] at hc10
    obtain rfl : k = l.length := by omega
    rw [List.take_length] at hown
    refine g_exit ?_
    refine g_then_exit ?_
    refine g_then_exit ?_
    refine g_block_same ?_
    refine g_next hK2 ?_
    refine g_seq (fun K8 hK8 => ?_)
    refine g_region ?_
    refine g_freeze 5 rfl hown ?_
    refine g_step rfl (s_val (v_move rfl) rfl rfl ?_)
    refine g_step rfl (s_val (v_assign rfl) rfl rfl ?_)
    refine g_nil ?_
    refine g_next hK8 ?_
    refine g_ret ?_
    refine g_end1 (.inl rfl) Try.results16 (.tmp rfl) [] (ASub.refl _) (AHeap.sub_refl _) (fun p hp => by cases hp) ⟨rfl, ?_⟩
    rfl

theorem aPut_ok (l : List Al) (a : Al) (G : AHeap) (va : AV) (hva : va.view G = some (l.map encAl)) (hl : l.length ≤ 100000) : PCalls Try.prog 14 [va, encAl a] G (fun v => v = .imm ((aPut l a).map encAl)) := by
  refine LCalls.intro 41 fi14 rfl Try.ntmps14 rfl (fun _ h => h.elim) (fun H hH w0 hw0 => ?_)
  have hva := view_sub hH hva
  refine g_seq (fun K0 hK0 => ?_)
  refine g_region ?_
  refine g_step rfl (s_box rfl rfl rfl rfl ?_)
  refine g_step rfl (s_val (v_assign rfl) rfl rfl ?_)
  refine g_nil ?_
  refine g_next hK0 ?_
  refine g_seq (fun K1 hK1 => ?_)
  refine g_region ?_
  refine g_step rfl (s_val (v_move rfl) rfl rfl ?_)
  refine g_step rfl (s_fieldAddr ty32 fo32_0 ty3 rfl rfl ?_)
  refine g_step rfl (s_val (v_loadl ty3 rfl rfl rfl rfl) rfl rfl ?_)
  refine g_step rfl (s_callp rfl rfl rfl (aWithout_ok l a.id _ va hva hl) ?_)
  rintro _ rfl
  refine g_step rfl (s_val (v_assign rfl) rfl rfl ?_)
  refine g_nil ?_
  refine g_next hK1 ?_
  refine g_seq (fun K2 hK2 => ?_)
  refine g_region ?_
  refine g_step rfl (s_val (v_assign rfl) rfl rfl ?_)
  refine g_nil ?_
  refine g_next hK2 ?_
  refine g_cut (fun env L B G => ∃ (k : Nat), env = [(0, .imm ((aWithout l a.id).map encAl)), (5, .int .i64 (k : Int))] ∧ L = [(3, 3, 0)] ∧ B = [(3, (encAl a))] ∧ H = G ∧ k ≤ (aWithout l a.id).length ∧ (aWithout l a.id).take k = ((aWithout l a.id).takeWhile fun x => decide (x.id < a.id)) ∧ (aWithout l a.id).drop k = ((aWithout l a.id).dropWhile fun x => decide (x.id < a.id))) ?_ (fun env L B G hI => ?_)
  · skip
    refine g_block ?_
    first | refine g_keep [0, 5] [3] [3] (keep_cons rfl (keep_cons rfl keep_nil)) (lkeep_cons rfl lkeep_nil) (keep_cons rfl keep_nil) rfl ?_ | refine g_keep [0, 5] [3] [3] rfl rfl rfl rfl ?_
    refine g_loop (fun n env L B G => ∃ (k : Nat) , k ≤ (aWithout l a.id).length ∧ n = (aWithout l a.id).length - k ∧ env = [(0, .imm ((aWithout l a.id).map encAl)), (5, .int .i64 (k : Int))] ∧ L = [(3, 3, 0)] ∧ B = [(3, (encAl a))] ∧ H = G ∧ ((aWithout l a.id).take k).all (fun x => decide (x.id < a.id)) = true) ((aWithout l a.id).length) ⟨0, Nat.zero_le _, rfl, rfl, rfl, rfl, rfl, rfl⟩ (fun n env L B G hI => ?_)
    obtain ⟨k, hk, rfl, rfl, rfl, rfl, rfl, hall⟩ := hI
    have hwl : (aWithout l a.id).length ≤ 100000 := Nat.le_trans (List.length_filter_le _ _) hl
    refine g_seq (fun K3 hK3 => ?_)
    refine g_seq (fun K4 hK4 => ?_)
    refine g_draw (n := 14) (fun j => !([] : List Nat).contains j) rfl rfl ?_
    refine m_take 0 false rfl rfl (by kernel_rfl) (by kernel_rfl) (by kernel_rfl) (fun _ _ _ _ h => h) (v_move rfl) rfl rfl ?_
    refine m_take 1 false rfl rfl (by kernel_rfl) (by kernel_rfl) (by kernel_rfl) (fun _ _ _ _ h => h) (v_move rfl) rfl rfl ?_
    refine m_take 2 false rfl rfl (by kernel_rfl) (by kernel_rfl) (by kernel_rfl) (fun _ _ _ _ h => h) (v_len ty26 rfl (by first | rfl | assumption) (by first | exact List.length_map .. | rfl)) rfl rfl ?_
    refine m_take 3 false rfl rfl (by kernel_rfl) (by kernel_rfl) (by kernel_rfl) (fun _ _ _ _ h => h) (v_lss rfl rfl) rfl rfl ?_
    refine m_take 4 false rfl rfl (by kernel_rfl) (by kernel_rfl) (by kernel_rfl) (fun _ _ _ _ h => h) (v_move rfl) rfl rfl ?_
    refine m_split 15 rfl (fun hg15 => ?_) (fun hg15 => ?_)
    · try simp only [decide_eq_true_eq, decide_eq_false_iff_not, Bool.not_eq_true', Bool.not_eq_false', Bool.not_eq_eq_eq_not, Bool.not_true, Bool.not_false, Bool.and_eq_true, Bool.or_eq_true, Bool.or_eq_false_iff, beq_iff_eq, beq_eq_false_iff_ne, ne_eq, Int.not_lt, Int.not_le, Decidable.not_not] at hg15
      obtain ⟨x, hx⟩ := get_some (l := aWithout l a.id) (k := k) (by omega)
      refine m_take_yes (j := 4) (t := 15) 5 false rfl rfl rfl rfl rfl (by kernel_rfl) (by kernel_rfl) (by kernel_rfl) (fun _ _ _ _ h => h) (v_move rfl) rfl rfl ?_
      refine m_take_yes (j := 4) (t := 15) 6 false rfl rfl rfl rfl rfl (by kernel_rfl) (by kernel_rfl) (by kernel_rfl) (fun _ _ _ _ h => h) (v_move rfl) rfl rfl ?_
      refine m_take_yes (j := 4) (t := 15) 7 false rfl rfl rfl rfl rfl (by kernel_rfl) (by kernel_rfl) (by kernel_rfl) (fun _ _ _ _ h => h) (v_indexAddr ty26 ty32 rfl rfl (by first | rfl | assumption) (by first | rfl | exact (rfl : (0 : Int) = ((0 : Nat) : Int)) | exact (Int.toNat_of_nonneg (by omega)).symm) (by first | assumption | exact map_get (by assumption) | rfl) rfl) rfl rfl ?_
      refine m_take_yes (j := 4) (t := 15) 8 false rfl rfl rfl rfl rfl (by kernel_rfl) (by kernel_rfl) (by kernel_rfl) (fun _ _ _ _ h => h) (by first | exact v_fieldAddr ty32 fo32_0 ty3 rfl | exact v_fieldAddr_box ty32 fo32_0 ty3 rfl) rfl rfl ?_
      refine m_take_yes (j := 4) (t := 15) 9 true rfl rfl rfl rfl rfl (by kernel_rfl) (by kernel_rfl) (by kernel_rfl) (fun _ _ _ _ h => h) (by first | exact v_load ty3 rfl rfl (by first | rfl | assumption) (by first | assumption | exact map_get (by assumption) | rfl) rfl | exact v_load_box ty3 rfl rfl (by assumption) rfl) rfl rfl ?_
      refine m_takel_yes (j := 4) (t := 15) 10 rfl rfl rfl rfl rfl (by kernel_rfl) (by kernel_rfl) (by kernel_rfl) (fun _ _ _ _ h => h) (vl_fieldAddr ty32 fo32_0 ty3 rfl) rfl rfl ?_
      refine m_take_yes (j := 4) (t := 15) 11 true rfl rfl rfl rfl rfl (by kernel_rfl) (by kernel_rfl) (by kernel_rfl) (fun _ _ _ _ h => h) (v_loadl ty3 rfl rfl rfl rfl) rfl rfl ?_
      refine m_take_yes (j := 4) (t := 15) 12 false rfl rfl rfl rfl rfl (by kernel_rfl) (by kernel_rfl) (by kernel_rfl) (fun _ _ _ _ h => h) (v_lss rfl rfl) rfl rfl ?_
      refine m_take 13 false rfl rfl (by kernel_rfl) (by kernel_rfl) (by kernel_rfl) (fun _ _ _ _ h => h) (v_pick_t rfl rfl) rfl rfl ?_
      refine m_done (by kernel_rfl) ?_
      refine g_next hK4 ?_
      refine g_cond rfl (fun hc24 => ?_) (fun hc24 => ?_)
      · try simp only [decide_eq_true_eq, decide_eq_false_iff_not, Bool.not_eq_true', Bool.not_eq_false', Bool.not_eq_eq_eq_not, Bool.not_true, Bool.not_false, Bool.and_eq_true, Bool.or_eq_true, Bool.or_eq_false_iff, beq_iff_eq, beq_eq_false_iff_ne, ne_eq, Int.not_lt, Int.not_le, Decidable.not_not] at hc24
        refine g_skip ?_
        refine g_next hK3 ?_
        refine g_block ?_
        refine g_region ?_
        refine g_step rfl (s_val (v_move rfl) rfl rfl ?_)
        refine g_step rfl (s_val (v_add rfl rfl (by omega)) rfl rfl ?_)
        refine g_step rfl (s_val (v_assign rfl) rfl rfl ?_)
        refine g_nil ?_
        refine g_block_normal ?_
        first | refine g_keep [0, 5] [3] [3] (keep_cons rfl (keep_cons rfl keep_nil)) (lkeep_cons rfl lkeep_nil) (keep_cons rfl keep_nil) rfl ?_ | refine g_keep [0, 5] [3] [3] rfl rfl rfl rfl ?_
        exact g_round _ (by omega) ⟨k + 1, by omega, rfl, rfl, rfl, rfl, rfl, by rw [allT_snoc hx, hall]; simpa using hc24⟩
      · try simp only [decide_eq_true_eq, decide_eq_false_iff_not, Bool.not_eq_true', Bool.not_eq_false', Bool.not_eq_eq_eq_not, Bool.not_true, Bool.not_false, Bool.and_eq_true, Bool.or_eq_true, Bool.or_eq_false_iff, beq_iff_eq, beq_eq_false_iff_ne, ne_eq, Int.not_lt, Int.not_le, Decidable.not_not] at hc24
        refine g_exit ?_
        refine g_then_exit ?_
        refine g_then_exit ?_
        refine g_block_same ?_
        first | refine g_keep [0, 5] [3] [3] (keep_cons rfl (keep_cons rfl keep_nil)) (lkeep_cons rfl lkeep_nil) (keep_cons rfl keep_nil) rfl ?_ | refine g_keep [0, 5] [3] [3] rfl rfl rfl rfl ?_
        first | exact g_has ⟨k, rfl, rfl, rfl, rfl, split_while hk hall (fun y hy => by rw [hx] at hy; injection hy with hy; subst hy; simp; omega)⟩ | exact g_has ⟨k, rfl, rfl, rfl, rfl, split_while hk hall (fun y hy => by have := (List.getElem?_eq_some_iff.1 hy).1; omega)⟩
    · try simp only [decide_eq_true_eq, decide_eq_false_iff_not, Bool.not_eq_true', Bool.not_eq_false', Bool.not_eq_eq_eq_not, Bool.not_true, Bool.not_false, Bool.and_eq_true, Bool.or_eq_true, Bool.or_eq_false_iff, beq_iff_eq, beq_eq_false_iff_ne, ne_eq, Int.not_lt, Int.not_le, Decidable.not_not] at hg15
      refine m_take_no (j := 4) (t := 15) 5 rfl rfl rfl rfl rfl rfl (by kernel_rfl) (by kernel_rfl) (by kernel_rfl) (fun _ _ _ _ h => h) rfl rfl ?_
      refine m_take_no (j := 4) (t := 15) 6 rfl rfl rfl rfl rfl rfl (by kernel_rfl) (by kernel_rfl) (by kernel_rfl) (fun _ _ _ _ h => h) rfl rfl ?_
      refine m_take_no (j := 4) (t := 15) 7 rfl rfl rfl rfl rfl rfl (by kernel_rfl) (by kernel_rfl) (by kernel_rfl) (fun _ _ _ _ h => h) rfl rfl ?_
      refine m_take_no (j := 4) (t := 15) 8 rfl rfl rfl rfl rfl rfl (by kernel_rfl) (by kernel_rfl) (by kernel_rfl) (fun _ _ _ _ h => h) rfl rfl ?_
      refine m_take_no (j := 4) (t := 15) 9 rfl rfl rfl rfl rfl rfl (by kernel_rfl) (by kernel_rfl) (by kernel_rfl) (fun _ _ _ _ h => h) rfl rfl ?_
      refine m_take_no (j := 4) (t := 15) 10 rfl rfl rfl rfl rfl rfl (by kernel_rfl) (by kernel_rfl) (by kernel_rfl) (fun _ _ _ _ h => h) rfl rfl ?_
      refine m_take_no (j := 4) (t := 15) 11 rfl rfl rfl rfl rfl rfl (by kernel_rfl) (by kernel_rfl) (by kernel_rfl) (fun _ _ _ _ h => h) rfl rfl ?_
      refine m_take_no (j := 4) (t := 15) 12 rfl rfl rfl rfl rfl rfl (by kernel_rfl) (by kernel_rfl) (by kernel_rfl) (fun _ _ _ _ h => h) rfl rfl ?_
      refine m_take 13 false rfl rfl (by kernel_rfl) (by kernel_rfl) (by kernel_rfl) (fun _ _ _ _ h => h) (v_pick_f rfl rfl) rfl rfl ?_
      refine m_done (by kernel_rfl) ?_
      refine g_next hK4 ?_
      refine g_cond rfl (fun h => by cases h) (fun _ => ?_)
      refine g_exit ?_
      refine g_then_exit ?_
      refine g_then_exit ?_
      refine g_block_same ?_
      first | refine g_keep [0, 5] [3] [3] (keep_cons rfl (keep_cons rfl keep_nil)) (lkeep_cons rfl lkeep_nil) (keep_cons rfl keep_nil) rfl ?_ | refine g_keep [0, 5] [3] [3] rfl rfl rfl rfl ?_
      first | exact g_has ⟨k, rfl, rfl, rfl, rfl, split_while hk hall (fun y hy => by rw [hx] at hy; injection hy with hy; subst hy; simp; omega)⟩ | exact g_has ⟨k, rfl, rfl, rfl, rfl, split_while hk hall (fun y hy => by have := (List.getElem?_eq_some_iff.1 hy).1; omega)⟩
  · skip
    obtain ⟨k, rfl, rfl, rfl, rfl, hk, htw, hdw⟩ := hI
    have hwl : (aWithout l a.id).length ≤ 100000 := Nat.le_trans (List.length_filter_le _ _) hl
    have htl : ((aWithout l a.id).takeWhile fun x => decide (x.id < a.id)).length = k := by rw [← htw, List.length_take]; omega
    have hdl : ((aWithout l a.id).dropWhile fun x => decide (x.id < a.id)).length ≤ 100000 := by rw [← hdw, List.length_drop]; omega
    refine g_seq (fun K5 hK5 => ?_)
    refine g_region ?_
    refine g_step rfl (s_lit0 ty26 ty32 rfl ?_)
    refine g_step rfl (s_val (v_move rfl) rfl rfl ?_)
    refine g_step rfl (s_val (v_move rfl) rfl rfl ?_)
    refine g_step rfl (s_val (v_slice_imm (lo := 0) (hi := k) (m := (((aWithout l a.id).takeWhile fun x => decide (x.id < a.id)).map encAl)) ty26 ty32 rfl rfl rfl (by first | rfl | (exact (rfl : (0 : Int) = ((0 : Nat) : Int))) | omega | (simp <;> omega)) (by first | rfl | (exact (rfl : (0 : Int) = ((0 : Nat) : Int))) | omega | (simp <;> omega)) (by first | omega | (simp <;> omega)) (by first | omega | (simp <;> omega)) (by refine Even.map _ ?_ _; intro _; rfl) (by rw [List.drop_zero, ← List.map_take, htw])) rfl rfl ?_)
    refine g_step rfl (s_append (l := []) (m := (((aWithout l a.id).takeWhile fun x => decide (x.id < a.id)).map encAl)) ty26 ty32 rfl rfl (Own.nil ..) rfl rfl (by refine Even.map _ ?_ _; intro _; rfl) (by intro x hx; obtain ⟨_, _, rfl⟩ := List.mem_map.1 hx; rfl) rfl (by simp; omega) (by simp; omega) ?_)
    intro av31 G31 h31
    rw [List.nil_append] at h31
    refine g_step rfl (s_val (v_assign rfl) rfl rfl ?_)
    refine g_nil ?_
    refine g_next hK5 ?_
    refine g_seq (fun K6 hK6 => ?_)
    refine g_region ?_
    refine g_step rfl (s_val (v_move rfl) rfl rfl ?_)
    refine g_step rfl (s_val (by first | exact v_loadl_all ty32 rfl rfl rfl rfl rfl | exact v_loadl_part (cs := [_, _, _]) ty32 rfl rfl rfl rfl rfl rfl) rfl rfl ?_)
    refine g_step rfl (s_lit ty26 ty32 rfl rfl rfl rfl rfl rfl rfl ?_)
    refine g_step rfl (s_append (l := (((aWithout l a.id).takeWhile fun x => decide (x.id < a.id)).map encAl)) (m := ([a].map encAl)) ty26 ty32 rfl rfl h31 rfl rfl (by refine Even.map _ ?_ _; intro _; rfl) (by intro x hx; obtain ⟨_, _, rfl⟩ := List.mem_map.1 hx; rfl) rfl (by simp; omega) (by simp; omega) ?_)
    intro av35 G35 h35
    rw [← List.map_append] at h35
    refine g_step rfl (s_val (v_assign rfl) rfl rfl ?_)
    refine g_nil ?_
    refine g_next hK6 ?_
    refine g_seq (fun K7 hK7 => ?_)
    refine g_region ?_
    refine g_step rfl (s_val (v_move rfl) rfl rfl ?_)
    refine g_step rfl (s_val (v_move rfl) rfl rfl ?_)
    refine g_step rfl (s_val (v_move rfl) rfl rfl ?_)
    refine g_step rfl (s_val (v_slice_imm (lo := k) (hi := (aWithout l a.id).length) (m := (((aWithout l a.id).dropWhile fun x => decide (x.id < a.id)).map encAl)) ty26 ty32 rfl rfl rfl (by first | rfl | (exact (rfl : (0 : Int) = ((0 : Nat) : Int))) | omega | (simp <;> omega)) (by simp) (by omega) (by simp) (by refine Even.map _ ?_ _; intro _; rfl) (by rw [List.take_of_length_le (by simp), ← List.map_drop, hdw])) rfl rfl ?_)
    refine g_step rfl (s_append (l := ((((aWithout l a.id).takeWhile fun x => decide (x.id < a.id)) ++ [a]).map encAl)) (m := (((aWithout l a.id).dropWhile fun x => decide (x.id < a.id)).map encAl)) ty26 ty32 rfl rfl h35 rfl rfl (by refine Even.map _ ?_ _; intro _; rfl) (by intro x hx; obtain ⟨_, _, rfl⟩ := List.mem_map.1 hx; rfl) rfl (by simp; omega) (by simp; omega) ?_)
    intro av40 G40 h40
    rw [← List.map_append] at h40
    refine g_freeze 40 rfl h40 ?_
    refine g_step rfl (s_val (v_assign rfl) rfl rfl ?_)
    refine g_nil ?_
    refine g_next hK7 ?_
    refine g_ret ?_
    refine g_end1 (.inl rfl) Try.results14 (.tmp rfl) [] (ASub.refl _) (AHeap.sub_refl _) (fun p hp => by cases hp) ⟨rfl, ?_⟩
    rfl

theorem same21_ok (l m : List Al) (G : AHeap) (va vb : AV) (hva : va.view G = some (l.map encAl)) (hvb : vb.view G = some (m.map encAl)) (hl : l.length ≤ 100000) (hm : m.length ≤ 100000) : PCalls Try.prog 17 [va, vb] G (fun v => v = .bool (decide (l = m))) := by
  refine LCalls.intro 54 fi17 rfl Try.ntmps17 rfl (fun _ h => h.elim) (fun H hH w0 hw0 => ?_)
  have hva := view_sub hH hva
  have hvb := view_sub hH hvb
  refine g_seq (fun K0 hK0 => ?_)
  refine g_region ?_
  refine g_step rfl (s_val (v_assign rfl) rfl rfl ?_)
  refine g_nil ?_
  refine g_next hK0 ?_
  refine g_seq (fun K1 hK1 => ?_)
  refine g_seq (fun K2 hK2 => ?_)
  refine g_region ?_
  refine g_step rfl (s_val (v_move rfl) rfl rfl ?_)
  refine g_step rfl (s_val (v_len ty26 rfl (by first | rfl | assumption) (by first | exact List.length_map .. | rfl)) rfl rfl ?_)
  refine g_step rfl (s_val (v_move rfl) rfl rfl ?_)
  refine g_step rfl (s_val (v_len ty26 rfl (by first | rfl | assumption) (by first | exact List.length_map .. | rfl)) rfl rfl ?_)
  refine g_step rfl (s_val (v_neq rfl rfl) rfl rfl ?_)
  refine g_nil ?_
  refine g_next hK2 ?_
  refine g_cond rfl (fun hc10 => ?_) (fun hc10 => ?_)
  · try simp only [decide_eq_true_eq, decide_eq_false_iff_not, Bool.not_eq_true', Bool.not_eq_false', Bool.not_eq_eq_eq_not, Bool.not_true, Bool.not_false, Bool.and_eq_true, Bool.or_eq_true, Bool.or_eq_false_iff, beq_iff_eq, beq_eq_false_iff_ne, ne_eq, Int.not_lt, Int.not_le, Decidable.not_not] at hc10
    have hne : decide (l = m) = false := decide_eq_false fun e => hc10 (by rw [e])
    refine g_seq (fun K3 hK3 => ?_)
    refine g_region ?_
    refine g_step rfl (s_val (v_assign rfl) rfl rfl ?_)
    refine g_nil ?_
    refine g_next hK3 ?_
    refine g_ret ?_
    refine g_then_ret ?_
    refine g_end1 (.inl rfl) Try.results17 (.tmp rfl) [] (ASub.refl _) (AHeap.sub_refl _) (fun p hp => by cases hp) ⟨rfl, ?_⟩
    first | (rw [hne]; done) | (rw [hne]; rfl)
  · try simp only [decide_eq_true_eq, decide_eq_false_iff_not, Bool.not_eq_true', Bool.not_eq_false', Bool.not_eq_eq_eq_not, Bool.not_true, Bool.not_false, Bool.and_eq_true, Bool.or_eq_true, Bool.or_eq_false_iff, beq_iff_eq, beq_eq_false_iff_ne, ne_eq, Int.not_lt, Int.not_le, Decidable.not_not] at hc10
    refine g_skip ?_
    refine g_next hK1 ?_
    refine g_seq (fun K4 hK4 => ?_)
    refine g_seq (fun K5 hK5 => ?_)
    refine g_region ?_
    refine g_step rfl (s_val (v_assign rfl) rfl rfl ?_)
    refine g_nil ?_
    refine g_next hK5 ?_
    refine g_block ?_
    first | refine g_keep [0, 1, 5] [] [] (keep_cons rfl (keep_cons rfl (keep_cons rfl keep_nil))) lkeep_nil keep_nil rfl ?_ | refine g_keep [0, 1, 5] [] [] rfl rfl rfl rfl ?_
    refine g_loop (fun n env L B G => ∃ (k : Nat) , k ≤ l.length ∧ n = l.length - k ∧ env = [(0, va), (1, vb), (5, .int .i64 (k : Int))] ∧ L = [] ∧ B = [] ∧ H = G ∧ l.take k = m.take k) (l.length) ⟨0, Nat.zero_le _, rfl, rfl, rfl, rfl, rfl, rfl⟩ (fun n env L B G hI => ?_)
    obtain ⟨k, hk, rfl, rfl, rfl, rfl, rfl, ht⟩ := hI
    refine g_seq (fun K6 hK6 => ?_)
    refine g_seq (fun K7 hK7 => ?_)
    refine g_region ?_
    refine g_step rfl (s_val (v_move rfl) rfl rfl ?_)
    refine g_step rfl (s_val (v_move rfl) rfl rfl ?_)
    refine g_step rfl (s_val (v_len ty26 rfl (by first | rfl | assumption) (by first | exact List.length_map .. | rfl)) rfl rfl ?_)
    refine g_step rfl (s_val (v_lss rfl rfl) rfl rfl ?_)
    refine g_nil ?_
    refine g_next hK7 ?_
    refine g_cond rfl (fun hc14 => ?_) (fun hc14 => ?_)
    · try simp only [decide_eq_true_eq, decide_eq_false_iff_not, Bool.not_eq_true', Bool.not_eq_false', Bool.not_eq_eq_eq_not, Bool.not_true, Bool.not_false, Bool.and_eq_true, Bool.or_eq_true, Bool.or_eq_false_iff, beq_iff_eq, beq_eq_false_iff_ne, ne_eq, Int.not_lt, Int.not_le, Decidable.not_not] at hc14
      obtain ⟨x, hx⟩ := get_some (l := l) (k := k) (by omega)
      obtain ⟨y, hy⟩ := get_some (l := m) (k := k) (by omega)
      refine g_skip ?_
      refine g_next hK6 ?_
      refine g_seq (fun K8 hK8 => ?_)
      refine g_block ?_
      refine g_seq (fun K9 hK9 => ?_)
      refine g_draw (n := 37) (fun j => !([] : List Nat).contains j) rfl rfl ?_
      refine m_take 0 false rfl rfl (by kernel_rfl) (by kernel_rfl) (by kernel_rfl) (fun _ _ _ _ h => h) (v_move rfl) rfl rfl ?_
      refine m_take 1 false rfl rfl (by kernel_rfl) (by kernel_rfl) (by kernel_rfl) (fun _ _ _ _ h => h) (v_move rfl) rfl rfl ?_
      refine m_take 2 false rfl rfl (by kernel_rfl) (by kernel_rfl) (by kernel_rfl) (fun _ _ _ _ h => h) (v_indexAddr ty26 ty32 rfl rfl hva (by first | rfl | exact (rfl : (0 : Int) = ((0 : Nat) : Int)) | exact (Int.toNat_of_nonneg (by omega)).symm) (map_get hx) rfl) rfl rfl ?_
      refine m_take 3 false rfl rfl (by kernel_rfl) (by kernel_rfl) (by kernel_rfl) (fun _ _ _ _ h => h) (by first | exact v_fieldAddr ty32 fo32_0 ty3 rfl | exact v_fieldAddr_box ty32 fo32_0 ty3 rfl) rfl rfl ?_
      refine m_take 4 true rfl rfl (by kernel_rfl) (by kernel_rfl) (by kernel_rfl) (fun _ _ _ _ h => h) (by first | exact v_load ty3 rfl rfl hva (map_get hx) rfl | exact v_load_box ty3 rfl rfl (by assumption) rfl) rfl rfl ?_
      refine m_take 5 false rfl rfl (by kernel_rfl) (by kernel_rfl) (by kernel_rfl) (fun _ _ _ _ h => h) (v_move rfl) rfl rfl ?_
      refine m_take 6 false rfl rfl (by kernel_rfl) (by kernel_rfl) (by kernel_rfl) (fun _ _ _ _ h => h) (v_move rfl) rfl rfl ?_
      refine m_take 7 false rfl rfl (by kernel_rfl) (by kernel_rfl) (by kernel_rfl) (fun _ _ _ _ h => h) (v_indexAddr ty26 ty32 rfl rfl hvb (by first | rfl | exact (rfl : (0 : Int) = ((0 : Nat) : Int)) | exact (Int.toNat_of_nonneg (by omega)).symm) (map_get hy) rfl) rfl rfl ?_
      refine m_take 8 false rfl rfl (by kernel_rfl) (by kernel_rfl) (by kernel_rfl) (fun _ _ _ _ h => h) (by first | exact v_fieldAddr ty32 fo32_0 ty3 rfl | exact v_fieldAddr_box ty32 fo32_0 ty3 rfl) rfl rfl ?_
      refine m_take 9 true rfl rfl (by kernel_rfl) (by kernel_rfl) (by kernel_rfl) (fun _ _ _ _ h => h) (by first | exact v_load ty3 rfl rfl hvb (map_get hy) rfl | exact v_load_box ty3 rfl rfl (by assumption) rfl) rfl rfl ?_
      refine m_take 10 false rfl rfl (by kernel_rfl) (by kernel_rfl) (by kernel_rfl) (fun _ _ _ _ h => h) (v_neq rfl rfl) rfl rfl ?_
      refine m_take 11 false rfl rfl (by kernel_rfl) (by kernel_rfl) (by kernel_rfl) (fun _ _ _ _ h => h) (v_move rfl) rfl rfl ?_
      refine m_split 28 rfl (fun hg28 => ?_) (fun hg28 => ?_)
      · try simp only [decide_eq_true_eq, decide_eq_false_iff_not, Bool.not_eq_true', Bool.not_eq_false', Bool.not_eq_eq_eq_not, Bool.not_true, Bool.not_false, Bool.and_eq_true, Bool.or_eq_true, Bool.or_eq_false_iff, beq_iff_eq, beq_eq_false_iff_ne, ne_eq, Int.not_lt, Int.not_le, Decidable.not_not] at hg28
        refine m_take_no (j := 11) (t := 28) 12 rfl rfl rfl rfl rfl rfl (by kernel_rfl) (by kernel_rfl) (by kernel_rfl) (fun _ _ _ _ h => h) rfl rfl ?_
        refine m_take_no (j := 11) (t := 28) 13 rfl rfl rfl rfl rfl rfl (by kernel_rfl) (by kernel_rfl) (by kernel_rfl) (fun _ _ _ _ h => h) rfl rfl ?_
        refine m_take_no (j := 11) (t := 28) 14 rfl rfl rfl rfl rfl rfl (by kernel_rfl) (by kernel_rfl) (by kernel_rfl) (fun _ _ _ _ h => h) rfl rfl ?_
        refine m_take_no (j := 11) (t := 28) 15 rfl rfl rfl rfl rfl rfl (by kernel_rfl) (by kernel_rfl) (by kernel_rfl) (fun _ _ _ _ h => h) rfl rfl ?_
        refine m_take_no (j := 11) (t := 28) 16 rfl rfl rfl rfl rfl rfl (by kernel_rfl) (by kernel_rfl) (by kernel_rfl) (fun _ _ _ _ h => h) rfl rfl ?_
        refine m_take_no (j := 11) (t := 28) 17 rfl rfl rfl rfl rfl rfl (by kernel_rfl) (by kernel_rfl) (by kernel_rfl) (fun _ _ _ _ h => h) rfl rfl ?_
        refine m_take_no (j := 11) (t := 28) 18 rfl rfl rfl rfl rfl rfl (by kernel_rfl) (by kernel_rfl) (by kernel_rfl) (fun _ _ _ _ h => h) rfl rfl ?_
        refine m_take_no (j := 11) (t := 28) 19 rfl rfl rfl rfl rfl rfl (by kernel_rfl) (by kernel_rfl) (by kernel_rfl) (fun _ _ _ _ h => h) rfl rfl ?_
        refine m_take_no (j := 11) (t := 28) 20 rfl rfl rfl rfl rfl rfl (by kernel_rfl) (by kernel_rfl) (by kernel_rfl) (fun _ _ _ _ h => h) rfl rfl ?_
        refine m_take_no (j := 11) (t := 28) 21 rfl rfl rfl rfl rfl rfl (by kernel_rfl) (by kernel_rfl) (by kernel_rfl) (fun _ _ _ _ h => h) rfl rfl ?_
        refine m_take_no (j := 11) (t := 28) 22 rfl rfl rfl rfl rfl rfl (by kernel_rfl) (by kernel_rfl) (by kernel_rfl) (fun _ _ _ _ h => h) rfl rfl ?_
        refine m_take 23 false rfl rfl (by kernel_rfl) (by kernel_rfl) (by kernel_rfl) (fun _ _ _ _ h => h) (v_pick_t rfl rfl) rfl rfl ?_
        refine m_take 24 false rfl rfl (by kernel_rfl) (by kernel_rfl) (by kernel_rfl) (fun _ _ _ _ h => h) (v_move rfl) rfl rfl ?_
        refine m_take_no (j := 24) (t := 41) 25 rfl rfl rfl rfl rfl rfl (by kernel_rfl) (by kernel_rfl) (by kernel_rfl) (fun _ _ _ _ h => h) rfl rfl ?_
        refine m_take_no (j := 24) (t := 41) 26 rfl rfl rfl rfl rfl rfl (by kernel_rfl) (by kernel_rfl) (by kernel_rfl) (fun _ _ _ _ h => h) rfl rfl ?_
        refine m_take_no (j := 24) (t := 41) 27 rfl rfl rfl rfl rfl rfl (by kernel_rfl) (by kernel_rfl) (by kernel_rfl) (fun _ _ _ _ h => h) rfl rfl ?_
        refine m_take_no (j := 24) (t := 41) 28 rfl rfl rfl rfl rfl rfl (by kernel_rfl) (by kernel_rfl) (by kernel_rfl) (fun _ _ _ _ h => h) rfl rfl ?_
        refine m_take_no (j := 24) (t := 41) 29 rfl rfl rfl rfl rfl rfl (by kernel_rfl) (by kernel_rfl) (by kernel_rfl) (fun _ _ _ _ h => h) rfl rfl ?_
        refine m_take_no (j := 24) (t := 41) 30 rfl rfl rfl rfl rfl rfl (by kernel_rfl) (by kernel_rfl) (by kernel_rfl) (fun _ _ _ _ h => h) rfl rfl ?_
        refine m_take_no (j := 24) (t := 41) 31 rfl rfl rfl rfl rfl rfl (by kernel_rfl) (by kernel_rfl) (by kernel_rfl) (fun _ _ _ _ h => h) rfl rfl ?_
        refine m_take_no (j := 24) (t := 41) 32 rfl rfl rfl rfl rfl rfl (by kernel_rfl) (by kernel_rfl) (by kernel_rfl) (fun _ _ _ _ h => h) rfl rfl ?_
        refine m_take_no (j := 24) (t := 41) 33 rfl rfl rfl rfl rfl rfl (by kernel_rfl) (by kernel_rfl) (by kernel_rfl) (fun _ _ _ _ h => h) rfl rfl ?_
        refine m_take_no (j := 24) (t := 41) 34 rfl rfl rfl rfl rfl rfl (by kernel_rfl) (by kernel_rfl) (by kernel_rfl) (fun _ _ _ _ h => h) rfl rfl ?_
        refine m_take_no (j := 24) (t := 41) 35 rfl rfl rfl rfl rfl rfl (by kernel_rfl) (by kernel_rfl) (by kernel_rfl) (fun _ _ _ _ h => h) rfl rfl ?_
        refine m_take 36 false rfl rfl (by kernel_rfl) (by kernel_rfl) (by kernel_rfl) (fun _ _ _ _ h => h) (v_pick_t rfl rfl) rfl rfl ?_
        refine m_done (by kernel_rfl) ?_
        refine g_next hK9 ?_
        first | refine g_keep [0, 1, 5, 53] [] [] (keep_cons rfl (keep_cons rfl (keep_cons rfl (keep_cons rfl keep_nil)))) lkeep_nil keep_nil rfl ?_ | refine g_keep [0, 1, 5, 53] [] [] rfl rfl rfl rfl ?_
        refine g_cond rfl (fun _ => ?_) (fun h => by cases h)
        refine g_seq (fun K10 hK10 => ?_)
        refine g_region ?_
        have hne := al_ne hx hy (fun e => by subst e; first | exact hc53 rfl | exact hg41 rfl | exact hg28 rfl)
        refine g_step rfl (s_val (v_assign rfl) rfl rfl ?_)
        refine g_nil ?_
        refine g_next hK10 ?_
        refine g_ret ?_
        refine g_block_ret ?_
        refine g_then_ret ?_
        refine g_then_ret ?_
        refine g_block_ret ?_
        refine g_then_ret ?_
        refine g_end1 (.inl rfl) Try.results17 (.tmp rfl) [] (ASub.refl _) (AHeap.sub_refl _) (fun p hp => by cases hp) ⟨rfl, ?_⟩
        first | (rw [hne]; done) | (rw [hne]; rfl)
      · try simp only [decide_eq_true_eq, decide_eq_false_iff_not, Bool.not_eq_true', Bool.not_eq_false', Bool.not_eq_eq_eq_not, Bool.not_true, Bool.not_false, Bool.and_eq_true, Bool.or_eq_true, Bool.or_eq_false_iff, beq_iff_eq, beq_eq_false_iff_ne, ne_eq, Int.not_lt, Int.not_le, Decidable.not_not] at hg28
        refine m_take_yes (j := 11) (t := 28) 12 false rfl rfl rfl rfl rfl (by kernel_rfl) (by kernel_rfl) (by kernel_rfl) (fun _ _ _ _ h => h) (v_move rfl) rfl rfl ?_
        refine m_take_yes (j := 11) (t := 28) 13 false rfl rfl rfl rfl rfl (by kernel_rfl) (by kernel_rfl) (by kernel_rfl) (fun _ _ _ _ h => h) (v_move rfl) rfl rfl ?_
        refine m_take_yes (j := 11) (t := 28) 14 false rfl rfl rfl rfl rfl (by kernel_rfl) (by kernel_rfl) (by kernel_rfl) (fun _ _ _ _ h => h) (v_indexAddr ty26 ty32 rfl rfl hva (by first | rfl | exact (rfl : (0 : Int) = ((0 : Nat) : Int)) | exact (Int.toNat_of_nonneg (by omega)).symm) (map_get hx) rfl) rfl rfl ?_
        refine m_take_yes (j := 11) (t := 28) 15 false rfl rfl rfl rfl rfl (by kernel_rfl) (by kernel_rfl) (by kernel_rfl) (fun _ _ _ _ h => h) (by first | exact v_fieldAddr ty32 fo32_1 ty3 rfl | exact v_fieldAddr_box ty32 fo32_1 ty3 rfl) rfl rfl ?_
        refine m_take_yes (j := 11) (t := 28) 16 true rfl rfl rfl rfl rfl (by kernel_rfl) (by kernel_rfl) (by kernel_rfl) (fun _ _ _ _ h => h) (by first | exact v_load ty3 rfl rfl hva (map_get hx) rfl | exact v_load_box ty3 rfl rfl (by assumption) rfl) rfl rfl ?_
        refine m_take_yes (j := 11) (t := 28) 17 false rfl rfl rfl rfl rfl (by kernel_rfl) (by kernel_rfl) (by kernel_rfl) (fun _ _ _ _ h => h) (v_move rfl) rfl rfl ?_
        refine m_take_yes (j := 11) (t := 28) 18 false rfl rfl rfl rfl rfl (by kernel_rfl) (by kernel_rfl) (by kernel_rfl) (fun _ _ _ _ h => h) (v_move rfl) rfl rfl ?_
        refine m_take_yes (j := 11) (t := 28) 19 false rfl rfl rfl rfl rfl (by kernel_rfl) (by kernel_rfl) (by kernel_rfl) (fun _ _ _ _ h => h) (v_indexAddr ty26 ty32 rfl rfl hvb (by first | rfl | exact (rfl : (0 : Int) = ((0 : Nat) : Int)) | exact (Int.toNat_of_nonneg (by omega)).symm) (map_get hy) rfl) rfl rfl ?_
        refine m_take_yes (j := 11) (t := 28) 20 false rfl rfl rfl rfl rfl (by kernel_rfl) (by kernel_rfl) (by kernel_rfl) (fun _ _ _ _ h => h) (by first | exact v_fieldAddr ty32 fo32_1 ty3 rfl | exact v_fieldAddr_box ty32 fo32_1 ty3 rfl) rfl rfl ?_
        refine m_take_yes (j := 11) (t := 28) 21 true rfl rfl rfl rfl rfl (by kernel_rfl) (by kernel_rfl) (by kernel_rfl) (fun _ _ _ _ h => h) (by first | exact v_load ty3 rfl rfl hvb (map_get hy) rfl | exact v_load_box ty3 rfl rfl (by assumption) rfl) rfl rfl ?_
        refine m_take_yes (j := 11) (t := 28) 22 false rfl rfl rfl rfl rfl (by kernel_rfl) (by kernel_rfl) (by kernel_rfl) (fun _ _ _ _ h => h) (v_neq rfl rfl) rfl rfl ?_
        refine m_take 23 false rfl rfl (by kernel_rfl) (by kernel_rfl) (by kernel_rfl) (fun _ _ _ _ h => h) (v_pick_f rfl rfl) rfl rfl ?_
        refine m_take 24 false rfl rfl (by kernel_rfl) (by kernel_rfl) (by kernel_rfl) (fun _ _ _ _ h => h) (v_move rfl) rfl rfl ?_
        refine m_split 41 rfl (fun hg41 => ?_) (fun hg41 => ?_)
        · try simp only [decide_eq_true_eq, decide_eq_false_iff_not, Bool.not_eq_true', Bool.not_eq_false', Bool.not_eq_eq_eq_not, Bool.not_true, Bool.not_false, Bool.and_eq_true, Bool.or_eq_true, Bool.or_eq_false_iff, beq_iff_eq, beq_eq_false_iff_ne, ne_eq, Int.not_lt, Int.not_le, Decidable.not_not] at hg41
          refine m_take_no (j := 24) (t := 41) 25 rfl rfl rfl rfl rfl rfl (by kernel_rfl) (by kernel_rfl) (by kernel_rfl) (fun _ _ _ _ h => h) rfl rfl ?_
          refine m_take_no (j := 24) (t := 41) 26 rfl rfl rfl rfl rfl rfl (by kernel_rfl) (by kernel_rfl) (by kernel_rfl) (fun _ _ _ _ h => h) rfl rfl ?_
          refine m_take_no (j := 24) (t := 41) 27 rfl rfl rfl rfl rfl rfl (by kernel_rfl) (by kernel_rfl) (by kernel_rfl) (fun _ _ _ _ h => h) rfl rfl ?_
          refine m_take_no (j := 24) (t := 41) 28 rfl rfl rfl rfl rfl rfl (by kernel_rfl) (by kernel_rfl) (by kernel_rfl) (fun _ _ _ _ h => h) rfl rfl ?_
          refine m_take_no (j := 24) (t := 41) 29 rfl rfl rfl rfl rfl rfl (by kernel_rfl) (by kernel_rfl) (by kernel_rfl) (fun _ _ _ _ h => h) rfl rfl ?_
          refine m_take_no (j := 24) (t := 41) 30 rfl rfl rfl rfl rfl rfl (by kernel_rfl) (by kernel_rfl) (by kernel_rfl) (fun _ _ _ _ h => h) rfl rfl ?_
          refine m_take_no (j := 24) (t := 41) 31 rfl rfl rfl rfl rfl rfl (by kernel_rfl) (by kernel_rfl) (by kernel_rfl) (fun _ _ _ _ h => h) rfl rfl ?_
          refine m_take_no (j := 24) (t := 41) 32 rfl rfl rfl rfl rfl rfl (by kernel_rfl) (by kernel_rfl) (by kernel_rfl) (fun _ _ _ _ h => h) rfl rfl ?_
          refine m_take_no (j := 24) (t := 41) 33 rfl rfl rfl rfl rfl rfl (by kernel_rfl) (by kernel_rfl) (by kernel_rfl) (fun _ _ _ _ h => h) rfl rfl ?_
          refine m_take_no (j := 24) (t := 41) 34 rfl rfl rfl rfl rfl rfl (by kernel_rfl) (by kernel_rfl) (by kernel_rfl) (fun _ _ _ _ h => h) rfl rfl ?_
          refine m_take_no (j := 24) (t := 41) 35 rfl rfl rfl rfl rfl rfl (by kernel_rfl) (by kernel_rfl) (by kernel_rfl) (fun _ _ _ _ h => h) rfl rfl ?_
          refine m_take 36 false rfl rfl (by kernel_rfl) (by kernel_rfl) (by kernel_rfl) (fun _ _ _ _ h => h) (v_pick_t rfl rfl) rfl rfl ?_
          refine m_done (by kernel_rfl) ?_
          refine g_next hK9 ?_
          first | refine g_keep [0, 1, 5, 53] [] [] (keep_cons rfl (keep_cons rfl (keep_cons rfl (keep_cons rfl keep_nil)))) lkeep_nil keep_nil rfl ?_ | refine g_keep [0, 1, 5, 53] [] [] rfl rfl rfl rfl ?_
          refine g_cond rfl (fun _ => ?_) (fun h => by cases h)
          refine g_seq (fun K11 hK11 => ?_)
          refine g_region ?_
          have hne := al_ne hx hy (fun e => by subst e; first | exact hc53 rfl | exact hg41 rfl | exact hg28 rfl)
          refine g_step rfl (s_val (v_assign rfl) rfl rfl ?_)
          refine g_nil ?_
          refine g_next hK11 ?_
          refine g_ret ?_
          refine g_block_ret ?_
          refine g_then_ret ?_
          refine g_then_ret ?_
          refine g_block_ret ?_
          refine g_then_ret ?_
          refine g_end1 (.inl rfl) Try.results17 (.tmp rfl) [] (ASub.refl _) (AHeap.sub_refl _) (fun p hp => by cases hp) ⟨rfl, ?_⟩
          first | (rw [hne]; done) | (rw [hne]; rfl)
        · try simp only [decide_eq_true_eq, decide_eq_false_iff_not, Bool.not_eq_true', Bool.not_eq_false', Bool.not_eq_eq_eq_not, Bool.not_true, Bool.not_false, Bool.and_eq_true, Bool.or_eq_true, Bool.or_eq_false_iff, beq_iff_eq, beq_eq_false_iff_ne, ne_eq, Int.not_lt, Int.not_le, Decidable.not_not] at hg41
          refine m_take_yes (j := 24) (t := 41) 25 false rfl rfl rfl rfl rfl (by kernel_rfl) (by kernel_rfl) (by kernel_rfl) (fun _ _ _ _ h => h) (v_move rfl) rfl rfl ?_
          refine m_take_yes (j := 24) (t := 41) 26 false rfl rfl rfl rfl rfl (by kernel_rfl) (by kernel_rfl) (by kernel_rfl) (fun _ _ _ _ h => h) (v_move rfl) rfl rfl ?_
          refine m_take_yes (j := 24) (t := 41) 27 false rfl rfl rfl rfl rfl (by kernel_rfl) (by kernel_rfl) (by kernel_rfl) (fun _ _ _ _ h => h) (v_indexAddr ty26 ty32 rfl rfl hva (by first | rfl | exact (rfl : (0 : Int) = ((0 : Nat) : Int)) | exact (Int.toNat_of_nonneg (by omega)).symm) (map_get hx) rfl) rfl rfl ?_
          refine m_take_yes (j := 24) (t := 41) 28 false rfl rfl rfl rfl rfl (by kernel_rfl) (by kernel_rfl) (by kernel_rfl) (fun _ _ _ _ h => h) (by first | exact v_fieldAddr ty32 fo32_2 ty3 rfl | exact v_fieldAddr_box ty32 fo32_2 ty3 rfl) rfl rfl ?_
          refine m_take_yes (j := 24) (t := 41) 29 true rfl rfl rfl rfl rfl (by kernel_rfl) (by kernel_rfl) (by kernel_rfl) (fun _ _ _ _ h => h) (by first | exact v_load ty3 rfl rfl hva (map_get hx) rfl | exact v_load_box ty3 rfl rfl (by assumption) rfl) rfl rfl ?_
          refine m_take_yes (j := 24) (t := 41) 30 false rfl rfl rfl rfl rfl (by kernel_rfl) (by kernel_rfl) (by kernel_rfl) (fun _ _ _ _ h => h) (v_move rfl) rfl rfl ?_
          refine m_take_yes (j := 24) (t := 41) 31 false rfl rfl rfl rfl rfl (by kernel_rfl) (by kernel_rfl) (by kernel_rfl) (fun _ _ _ _ h => h) (v_move rfl) rfl rfl ?_
          refine m_take_yes (j := 24) (t := 41) 32 false rfl rfl rfl rfl rfl (by kernel_rfl) (by kernel_rfl) (by kernel_rfl) (fun _ _ _ _ h => h) (v_indexAddr ty26 ty32 rfl rfl hvb (by first | rfl | exact (rfl : (0 : Int) = ((0 : Nat) : Int)) | exact (Int.toNat_of_nonneg (by omega)).symm) (map_get hy) rfl) rfl rfl ?_
          refine m_take_yes (j := 24) (t := 41) 33 false rfl rfl rfl rfl rfl (by kernel_rfl) (by kernel_rfl) (by kernel_rfl) (fun _ _ _ _ h => h) (by first | exact v_fieldAddr ty32 fo32_2 ty3 rfl | exact v_fieldAddr_box ty32 fo32_2 ty3 rfl) rfl rfl ?_
          refine m_take_yes (j := 24) (t := 41) 34 true rfl rfl rfl rfl rfl (by kernel_rfl) (by kernel_rfl) (by kernel_rfl) (fun _ _ _ _ h => h) (by first | exact v_load ty3 rfl rfl hvb (map_get hy) rfl | exact v_load_box ty3 rfl rfl (by assumption) rfl) rfl rfl ?_
          refine m_take_yes (j := 24) (t := 41) 35 false rfl rfl rfl rfl rfl (by kernel_rfl) (by kernel_rfl) (by kernel_rfl) (fun _ _ _ _ h => h) (v_neq rfl rfl) rfl rfl ?_
          refine m_take 36 false rfl rfl (by kernel_rfl) (by kernel_rfl) (by kernel_rfl) (fun _ _ _ _ h => h) (v_pick_f rfl rfl) rfl rfl ?_
          refine m_done (by kernel_rfl) ?_
          refine g_next hK9 ?_
          first | refine g_keep [0, 1, 5, 53] [] [] (keep_cons rfl (keep_cons rfl (keep_cons rfl (keep_cons rfl keep_nil)))) lkeep_nil keep_nil rfl ?_ | refine g_keep [0, 1, 5, 53] [] [] rfl rfl rfl rfl ?_
          refine g_cond rfl (fun hc53 => ?_) (fun hc53 => ?_)
          · try simp only [decide_eq_true_eq, decide_eq_false_iff_not, Bool.not_eq_true', Bool.not_eq_false', Bool.not_eq_eq_eq_not, Bool.not_true, Bool.not_false, Bool.and_eq_true, Bool.or_eq_true, Bool.or_eq_false_iff, beq_iff_eq, beq_eq_false_iff_ne, ne_eq, Int.not_lt, Int.not_le, Decidable.not_not] at hc53
            refine g_seq (fun K12 hK12 => ?_)
            refine g_region ?_
            have hne := al_ne hx hy (fun e => by subst e; first | exact hc53 rfl | exact hg41 rfl | exact hg28 rfl)
            refine g_step rfl (s_val (v_assign rfl) rfl rfl ?_)
            refine g_nil ?_
            refine g_next hK12 ?_
            refine g_ret ?_
            refine g_block_ret ?_
            refine g_then_ret ?_
            refine g_then_ret ?_
            refine g_block_ret ?_
            refine g_then_ret ?_
            refine g_end1 (.inl rfl) Try.results17 (.tmp rfl) [] (ASub.refl _) (AHeap.sub_refl _) (fun p hp => by cases hp) ⟨rfl, ?_⟩
            first | (rw [hne]; done) | (rw [hne]; rfl)
          · try simp only [decide_eq_true_eq, decide_eq_false_iff_not, Bool.not_eq_true', Bool.not_eq_false', Bool.not_eq_eq_eq_not, Bool.not_true, Bool.not_false, Bool.and_eq_true, Bool.or_eq_true, Bool.or_eq_false_iff, beq_iff_eq, beq_eq_false_iff_ne, ne_eq, Int.not_lt, Int.not_le, Decidable.not_not] at hc53
            refine g_skip ?_
            refine g_block_normal ?_
            refine g_next hK8 ?_
            refine g_region ?_
            refine g_step rfl (s_val (v_move rfl) rfl rfl ?_)
            refine g_step rfl (s_val (v_add rfl rfl (by omega)) rfl rfl ?_)
            refine g_step rfl (s_val (v_assign rfl) rfl rfl ?_)
            refine g_nil ?_
            first | refine g_keep [0, 1, 5] [] [] (keep_cons rfl (keep_cons rfl (keep_cons rfl keep_nil))) lkeep_nil keep_nil rfl ?_ | refine g_keep [0, 1, 5] [] [] rfl rfl rfl rfl ?_
            exact g_round _ (by omega) ⟨k + 1, by omega, rfl, rfl, rfl, rfl, rfl, take_both ht hx hy (by cases x; cases y; simp_all)⟩
    · try simp only [decide_eq_true_eq, decide_eq_false_iff_not, Bool.not_eq_true', Bool.not_eq_false', Bool.not_eq_eq_eq_not, Bool.not_true, Bool.not_false, Bool.and_eq_true, Bool.or_eq_true, Bool.or_eq_false_iff, beq_iff_eq, beq_eq_false_iff_ne, ne_eq, Int.not_lt, Int.not_le, Decidable.not_not] at hc14
      obtain rfl : k = l.length := by omega
      have hlm : l.length = m.length := by omega
      rw [List.take_length, hlm, List.take_length] at ht
      refine g_exit ?_
      refine g_then_exit ?_
      refine g_then_exit ?_
      refine g_block_same ?_
      refine g_next hK4 ?_
      refine g_seq (fun K13 hK13 => ?_)
      refine g_region ?_
      refine g_step rfl (s_val (v_assign rfl) rfl rfl ?_)
      refine g_nil ?_
      refine g_next hK13 ?_
      refine g_ret ?_
      refine g_end1 (.inl rfl) Try.results17 (.tmp rfl) [] (ASub.refl _) (AHeap.sub_refl _) (fun p hp => by cases hp) ⟨rfl, ?_⟩
      first | (simp [ht]; done) | (simp [ht]; rfl)

end Go.Proofs.Ytobigfbgaiglkaa

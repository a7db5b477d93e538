import Derived.Test.YtgipbhfblmblcaaRec2
import Derived.Test.YtgipbhfblmblcaaLattice
import Derived.Test.YtgipbhfblmblcaaPMerge
import Derived.Test.YtgipbhfblmblcaaSortLay
set_option maxHeartbeats 8000000
set_option linter.unusedSimpArgs false
set_option linter.unusedVariables false
set_option maxRecDepth 100000
namespace Go.Proofs.Ytgipbhfblmblcaa
open Go Go.Proofs.Ytgipbhfblmblcaa.AM
theorem len64z_ok (G : AHeap) : PCalls Try.prog 111 [.int .u64 0] G (fun v => v = .int .i64 0) := by
  refine LCalls.intro 25 fi111 rfl Try.ntmps111 rfl (fun _ h => h.elim) (fun H hH w0 hw0 => ?_)
  refine g_seq (fun K0 hK0 => ?_)
  refine g_region ?_
  refine g_step rfl (s_val (v_assign rfl) rfl rfl ?_)
  refine g_nil ?_
  refine g_next hK0 ?_
  refine g_seq (fun K1 hK1 => ?_)
  refine g_seq (fun K2 hK2 => ?_)
  refine g_region ?_
  refine g_step rfl (s_val (v_move rfl) rfl rfl ?_)
  refine g_step rfl (s_val (v_geq rfl rfl) rfl rfl ?_)
  refine g_nil ?_
  refine g_next hK2 ?_
  refine g_cond rfl (fun hc4 => ?_) (fun hc4 => ?_)
  · exfalso; (try simp only [decide_eq_true_eq, decide_eq_false_iff_not, Bool.not_eq_true', Bool.not_eq_false', Bool.not_eq_eq_eq_not, Bool.not_true, Bool.not_false, Bool.and_eq_true, Bool.or_eq_true, Bool.or_eq_false_iff, beq_iff_eq, beq_eq_false_iff_ne, ne_eq, Int.not_lt, Int.not_le, Decidable.not_not] at hc4); exact absurd hc4 (by decide)
  · try simp only [decide_eq_true_eq, decide_eq_false_iff_not, Bool.not_eq_true', Bool.not_eq_false', Bool.not_eq_eq_eq_not, Bool.not_true, Bool.not_false, Bool.and_eq_true, Bool.or_eq_true, Bool.or_eq_false_iff, beq_iff_eq, beq_eq_false_iff_ne, ne_eq, Int.not_lt, Int.not_le, Decidable.not_not] at hc4
    refine g_skip ?_
    refine g_next hK1 ?_
    refine g_seq (fun K3 hK3 => ?_)
    refine g_seq (fun K4 hK4 => ?_)
    refine g_region ?_
    refine g_step rfl (s_val (v_move rfl) rfl rfl ?_)
    refine g_step rfl (s_val (v_geq rfl rfl) rfl rfl ?_)
    refine g_nil ?_
    refine g_next hK4 ?_
    refine g_cond rfl (fun hc8 => ?_) (fun hc8 => ?_)
    · exfalso; (try simp only [decide_eq_true_eq, decide_eq_false_iff_not, Bool.not_eq_true', Bool.not_eq_false', Bool.not_eq_eq_eq_not, Bool.not_true, Bool.not_false, Bool.and_eq_true, Bool.or_eq_true, Bool.or_eq_false_iff, beq_iff_eq, beq_eq_false_iff_ne, ne_eq, Int.not_lt, Int.not_le, Decidable.not_not] at hc8); exact absurd hc8 (by decide)
    · try simp only [decide_eq_true_eq, decide_eq_false_iff_not, Bool.not_eq_true', Bool.not_eq_false', Bool.not_eq_eq_eq_not, Bool.not_true, Bool.not_false, Bool.and_eq_true, Bool.or_eq_true, Bool.or_eq_false_iff, beq_iff_eq, beq_eq_false_iff_ne, ne_eq, Int.not_lt, Int.not_le, Decidable.not_not] at hc8
      refine g_skip ?_
      refine g_next hK3 ?_
      refine g_seq (fun K5 hK5 => ?_)
      refine g_seq (fun K6 hK6 => ?_)
      refine g_region ?_
      refine g_step rfl (s_val (v_move rfl) rfl rfl ?_)
      refine g_step rfl (s_val (v_geq rfl rfl) rfl rfl ?_)
      refine g_nil ?_
      refine g_next hK6 ?_
      refine g_cond rfl (fun hc14 => ?_) (fun hc14 => ?_)
      · exfalso; (try simp only [decide_eq_true_eq, decide_eq_false_iff_not, Bool.not_eq_true', Bool.not_eq_false', Bool.not_eq_eq_eq_not, Bool.not_true, Bool.not_false, Bool.and_eq_true, Bool.or_eq_true, Bool.or_eq_false_iff, beq_iff_eq, beq_eq_false_iff_ne, ne_eq, Int.not_lt, Int.not_le, Decidable.not_not] at hc14); exact absurd hc14 (by decide)
      · try simp only [decide_eq_true_eq, decide_eq_false_iff_not, Bool.not_eq_true', Bool.not_eq_false', Bool.not_eq_eq_eq_not, Bool.not_true, Bool.not_false, Bool.and_eq_true, Bool.or_eq_true, Bool.or_eq_false_iff, beq_iff_eq, beq_eq_false_iff_ne, ne_eq, Int.not_lt, Int.not_le, Decidable.not_not] at hc14
        refine g_skip ?_
        refine g_next hK5 ?_
        refine g_seq (fun K7 hK7 => ?_)
        refine g_region ?_
        refine g_step rfl (s_val (v_move rfl) rfl rfl ?_)
        refine g_step rfl (s_val (v_move rfl) rfl rfl ?_)
        refine g_step rfl (s_val (v_conv_int (m := 0) ty156 ty5 rfl (by decide)) rfl rfl ?_)
        refine g_step rfl (s_val (v_index_str (i := 0) (b := 0) ty9 rfl rfl (by first | rfl | exact (rfl : (0 : Int) = ((0 : Nat) : Int)) | exact (Int.toNat_of_nonneg (by omega)).symm) rfl) rfl rfl ?_)
        refine g_step rfl (s_val (v_conv_int (m := 0) ty5 ty3 rfl (by decide)) rfl rfl ?_)
        refine g_step rfl (s_val (v_add rfl rfl (by omega)) rfl rfl ?_)
        refine g_step rfl (s_val (v_assign rfl) rfl rfl ?_)
        refine g_nil ?_
        refine g_next hK7 ?_
        refine g_ret ?_
        refine g_end1 (.inl rfl) Try.results111 (.tmp rfl) [] (ASub.refl _) (AHeap.sub_refl _) (fun p hp => by cases hp) ⟨rfl, ?_⟩
        rfl

theorem lenz_ok (G : AHeap) : PCalls Try.prog 83 [.int .u64 0] G (fun v => v = .int .i64 0) := by
  refine LCalls.intro 8 fi83 rfl Try.ntmps83 rfl (fun _ h => h.elim) (fun H hH w0 hw0 => ?_)
  refine g_seq (fun K0 hK0 => ?_)
  refine g_region ?_
  refine g_step rfl (s_val (v_assign rfl) rfl rfl ?_)
  refine g_nil ?_
  refine g_next hK0 ?_
  refine g_seq (fun K1 hK1 => ?_)
  refine g_cond rfl (fun h => by cases h) (fun _ => ?_)
  refine g_skip ?_
  refine g_next hK1 ?_
  refine g_seq (fun K2 hK2 => ?_)
  refine g_region ?_
  refine g_step rfl (s_val (v_move rfl) rfl rfl ?_)
  refine g_step rfl (s_callp rfl rfl rfl (len64z_ok _) ?_)
  rintro _ rfl
  refine g_step rfl (s_val (v_assign rfl) rfl rfl ?_)
  refine g_nil ?_
  refine g_next hK2 ?_
  refine g_ret ?_
  refine g_end1 (.inl rfl) Try.results83 (.tmp rfl) [] (ASub.refl _) (AHeap.sub_refl _) (fun p hp => by cases hp) ⟨rfl, ?_⟩
  rfl

theorem insSortNil_ok (G : AHeap) : PCalls Try.prog 101 [.nil0, .int .i64 0, .int .i64 0] G (fun v => v = .tup []) := by
  refine LCalls.intro 49 fi101 rfl Try.ntmps101 rfl (fun _ h => h.elim) (fun H hH w0 hw0 => ?_)
  refine g_seq (fun K0 hK0 => ?_)
  refine g_region ?_
  refine g_step rfl (s_val (v_move rfl) rfl rfl ?_)
  refine g_step rfl (s_val (v_add rfl rfl (by omega)) rfl rfl ?_)
  refine g_step rfl (s_val (v_assign rfl) rfl rfl ?_)
  refine g_nil ?_
  refine g_next hK0 ?_
  refine g_block ?_
  first | refine g_keep [0, 1, 2, 6] [] [] (keep_cons rfl (keep_cons rfl (keep_cons rfl (keep_cons rfl keep_nil)))) lkeep_nil keep_nil rfl ?_ | refine g_keep [0, 1, 2, 6] [] [] rfl rfl rfl rfl ?_
  refine g_loop (fun n env L B G => env = [(0, .nil0), (1, .int .i64 0), (2, .int .i64 0), (6, .int .i64 (0 + 1))] ∧ L = [] ∧ B = [] ∧ H = G) 0 ⟨rfl, rfl, rfl, rfl⟩ (fun n env L B G hI => ?_)
  obtain ⟨rfl, rfl, rfl, rfl⟩ := hI
  refine g_seq (fun K1 hK1 => ?_)
  refine g_seq (fun K2 hK2 => ?_)
  refine g_region ?_
  refine g_step rfl (s_val (v_move rfl) rfl rfl ?_)
  refine g_step rfl (s_val (v_move rfl) rfl rfl ?_)
  refine g_step rfl (s_val (v_lss rfl rfl) rfl rfl ?_)
  refine g_nil ?_
  refine g_next hK2 ?_
  refine g_cond rfl (fun hc12 => ?_) (fun hc12 => ?_)
  · exfalso; (try simp only [decide_eq_true_eq, decide_eq_false_iff_not, Bool.not_eq_true', Bool.not_eq_false', Bool.not_eq_eq_eq_not, Bool.not_true, Bool.not_false, Bool.and_eq_true, Bool.or_eq_true, Bool.or_eq_false_iff, beq_iff_eq, beq_eq_false_iff_ne, ne_eq, Int.not_lt, Int.not_le, Decidable.not_not] at hc12); exact absurd hc12 (by decide)
  · try simp only [decide_eq_true_eq, decide_eq_false_iff_not, Bool.not_eq_true', Bool.not_eq_false', Bool.not_eq_eq_eq_not, Bool.not_true, Bool.not_false, Bool.and_eq_true, Bool.or_eq_true, Bool.or_eq_false_iff, beq_iff_eq, beq_eq_false_iff_ne, ne_eq, Int.not_lt, Int.not_le, Decidable.not_not] at hc12
    refine g_exit ?_
    refine g_then_exit ?_
    refine g_then_exit ?_
    refine g_block_same ?_
    refine g_end0 (.inr rfl) Try.results101  []  (AHeap.sub_refl _) (fun p hp => by cases hp) ⟨rfl, ?_⟩
    rfl

theorem pdqNil_ok (G : AHeap) : PCalls Try.prog 82 [.nil0, .int .i64 0, .int .i64 0, .int .i64 0] G (fun v => v = .tup []) := by
  refine LCalls.intro 134 fi82 rfl Try.ntmps82 rfl (fun _ h => h.elim) (fun H hH w0 hw0 => ?_)
  refine g_seq (fun K0 hK0 => ?_)
  refine g_region ?_
  refine g_step rfl (s_val (v_assign rfl) rfl rfl ?_)
  refine g_nil ?_
  refine g_next hK0 ?_
  refine g_seq (fun K1 hK1 => ?_)
  refine g_region ?_
  refine g_step rfl (s_val (v_assign rfl) rfl rfl ?_)
  refine g_nil ?_
  refine g_next hK1 ?_
  refine g_block ?_
  first | refine g_keep [0, 1, 2, 3, 8, 9] [] [] (keep_cons rfl (keep_cons rfl (keep_cons rfl (keep_cons rfl (keep_cons rfl (keep_cons rfl keep_nil)))))) lkeep_nil keep_nil rfl ?_ | refine g_keep [0, 1, 2, 3, 8, 9] [] [] rfl rfl rfl rfl ?_
  refine g_loop (fun n env L B G => env = [(0, .nil0), (1, .int .i64 0), (2, .int .i64 0), (3, .int .i64 0), (8, .bool true), (9, .bool true)] ∧ L = [] ∧ B = [] ∧ H = G) 0 ⟨rfl, rfl, rfl, rfl⟩ (fun n env L B G hI => ?_)
  obtain ⟨rfl, rfl, rfl, rfl⟩ := hI
  refine g_block ?_
  refine g_seq (fun K2 hK2 => ?_)
  refine g_region ?_
  refine g_step rfl (s_val (v_move rfl) rfl rfl ?_)
  refine g_step rfl (s_val (v_move rfl) rfl rfl ?_)
  refine g_step rfl (s_val (v_sub_ rfl rfl (by omega)) rfl rfl ?_)
  refine g_step rfl (s_val (v_assign rfl) rfl rfl ?_)
  refine g_nil ?_
  refine g_next hK2 ?_
  refine g_seq (fun K3 hK3 => ?_)
  refine g_seq (fun K4 hK4 => ?_)
  refine g_region ?_
  refine g_step rfl (s_val (v_move rfl) rfl rfl ?_)
  refine g_step rfl (s_val (v_leq rfl rfl) rfl rfl ?_)
  refine g_nil ?_
  refine g_next hK4 ?_
  refine g_cond rfl (fun hc23 => ?_) (fun hc23 => ?_)
  · try simp only [decide_eq_true_eq, decide_eq_false_iff_not, Bool.not_eq_true', Bool.not_eq_false', Bool.not_eq_eq_eq_not, Bool.not_true, Bool.not_false, Bool.and_eq_true, Bool.or_eq_true, Bool.or_eq_false_iff, beq_iff_eq, beq_eq_false_iff_ne, ne_eq, Int.not_lt, Int.not_le, Decidable.not_not] at hc23
    refine g_seq (fun K5 hK5 => ?_)
    refine g_region ?_
    refine g_step rfl (s_val (v_move rfl) rfl rfl ?_)
    refine g_step rfl (s_val (v_move rfl) rfl rfl ?_)
    refine g_step rfl (s_val (v_move rfl) rfl rfl ?_)
    refine g_step rfl (s_callp rfl rfl rfl (insSortNil_ok _) ?_)
    rintro _ rfl
    refine g_nil ?_
    refine g_next hK5 ?_
    refine g_ret ?_
    refine g_then_ret ?_
    refine g_block_ret ?_
    refine g_then_ret ?_
    refine g_block_ret ?_
    refine g_end0 (.inl rfl) Try.results82  []  (AHeap.sub_refl _) (fun p hp => by cases hp) ⟨rfl, ?_⟩
    rfl
  · exfalso; (try simp only [decide_eq_true_eq, decide_eq_false_iff_not, Bool.not_eq_true', Bool.not_eq_false', Bool.not_eq_eq_eq_not, Bool.not_true, Bool.not_false, Bool.and_eq_true, Bool.or_eq_true, Bool.or_eq_false_iff, beq_iff_eq, beq_eq_false_iff_ne, ne_eq, Int.not_lt, Int.not_le, Decidable.not_not] at hc23); exact absurd hc23 (by decide)

theorem sortNil_ok (G : AHeap) : PCalls Try.prog 54 [.nil0] G (fun v => v = .tup []) := by
  refine LCalls.intro 11 fi54 rfl Try.ntmps54 rfl (fun _ h => h.elim) (fun H hH w0 hw0 => ?_)
  refine g_seq (fun K0 hK0 => ?_)
  refine g_region ?_
  refine g_step rfl (s_val (v_move rfl) rfl rfl ?_)
  refine g_step rfl (s_val (v_len ty71 rfl (by first | rfl | assumption) (by first | exact List.length_map .. | rfl)) rfl rfl ?_)
  refine g_step rfl (s_val (v_assign rfl) rfl rfl ?_)
  refine g_nil ?_
  refine g_next hK0 ?_
  refine g_region ?_
  refine g_step rfl (s_val (v_move rfl) rfl rfl ?_)
  refine g_step rfl (s_val (v_move rfl) rfl rfl ?_)
  refine g_step rfl (s_val (v_move rfl) rfl rfl ?_)
  refine g_step rfl (s_val (v_conv_int (m := _) ty3 ty135 rfl rfl) rfl rfl ?_)
  refine g_step rfl (s_callp rfl rfl rfl (lenz_ok _) ?_)
  rintro _ rfl
  refine g_step rfl (s_callp rfl rfl rfl (pdqNil_ok _) ?_)
  rintro _ rfl
  refine g_nil ?_
  refine g_end0 (.inr rfl) Try.results54  []  (AHeap.sub_refl _) (fun p hp => by cases hp) ⟨rfl, ?_⟩
  rfl

theorem merge_ok (ls : List (List Rc)) (G : AHeap) (hT : ls.flatten.length ≤ 100000) (hls : ls.length ≤ 100000) (hsm : ∀ l ∈ ls, ∀ r ∈ l, Small r.bag) : PCalls Try.prog 21 [.imm (ls.map encRs)] G (fun v => v = .tup [encRs (mergeAll ls).1, .bool (mergeAll ls).2]) := by
  refine LCalls.intro 79 fi21 rfl Try.ntmps21 rfl (fun _ h => h.elim) (fun H hH w0 hw0 => ?_)
  refine g_seq (fun K0 hK0 => ?_)
  refine g_region ?_
  refine g_step rfl (s_val (v_assign rfl) rfl rfl ?_)
  refine g_step rfl (s_val (v_assign rfl) rfl rfl ?_)
  refine g_nil ?_
  refine g_next hK0 ?_
  refine g_seq (fun K1 hK1 => ?_)
  refine g_region ?_
  refine g_step rfl (s_makeMap .i64 rfl (fun r16 hr16 hw16 => ?_))
  refine g_step rfl (s_val (v_assign rfl) rfl rfl ?_)
  refine g_nil ?_
  refine g_next hK1 ?_
  refine g_seq (fun K2 hK2 => ?_)
  refine g_seq (fun K3 hK3 => ?_)
  refine g_region ?_
  refine g_step rfl (s_val (v_move rfl) rfl rfl ?_)
  refine g_step rfl (s_val (v_len ty31 rfl (by first | rfl | assumption) (by first | exact List.length_map .. | rfl)) rfl rfl ?_)
  refine g_step rfl (s_val (v_move rfl) rfl rfl ?_)
  refine g_nil ?_
  refine g_next hK3 ?_
  refine g_block ?_
  first | refine g_keep [4, 17, 18, 19] [] [] (keep_cons rfl (keep_cons rfl (keep_cons rfl (keep_cons rfl keep_nil)))) lkeep_nil keep_nil rfl ?_ | refine g_keep [4, 17, 18, 19] [] [] rfl rfl rfl rfl ?_
  refine g_loop (fun n env L B G => ∃ (i : Nat) , i ≤ ls.length ∧ n = ls.length - i ∧ env = [(4, .map r16), (17, .imm (ls.map encRs)), (18, .int .i64 (ls.length : Int)), (19, .int .i64 (i : Int))] ∧ L = [] ∧ B = [] ∧ G = H.set r16 (mrow .i64 (mmap encR (mrows (ls.take i).flatten))) ∧ (ls.take i).all srt = true) (ls.length) ⟨0, Nat.zero_le _, rfl, rfl, rfl, rfl, rfl, rfl⟩ (fun n env L B G hI => ?_)
  obtain ⟨i, hi, rfl, rfl, rfl, rfl, rfl, hc⟩ := hI
  refine g_seq (fun K4 hK4 => ?_)
  refine g_region ?_
  refine g_step rfl (s_val (v_lss rfl rfl) rfl rfl ?_)
  refine g_nil ?_
  refine g_next hK4 ?_
  refine g_seq (fun K5 hK5 => ?_)
  refine g_cond rfl (fun hc20 => ?_) (fun hc20 => ?_)
  · try simp only [decide_eq_true_eq, decide_eq_false_iff_not, Bool.not_eq_true', Bool.not_eq_false', Bool.not_eq_eq_eq_not, Bool.not_true, Bool.not_false, Bool.and_eq_true, Bool.or_eq_true, Bool.or_eq_false_iff, beq_iff_eq, beq_eq_false_iff_ne, ne_eq, Int.not_lt, Int.not_le, Decidable.not_not] at hc20
    obtain ⟨l, hl⟩ := get_some (l := ls) (k := i) (by omega)
    have hlm := mem_get hl
    have hll := len_flatten hlm
    have hsl := hsm l hlm
    refine g_skip ?_
    refine g_next hK5 ?_
    refine g_seq (fun K6 hK6 => ?_)
    refine g_block ?_
    refine g_seq (fun K7 hK7 => ?_)
    refine g_region ?_
    refine g_step rfl (s_val (v_indexAddr ty31 ty22 rfl rfl (by first | rfl | assumption) (by first | rfl | exact (rfl : (0 : Int) = ((0 : Nat) : Int)) | exact (Int.toNat_of_nonneg (by omega)).symm) (by first | assumption | exact map_get (by assumption) | rfl) rfl) rfl rfl ?_)
    refine g_step rfl (s_val (by first | exact v_load ty22 rfl rfl (by first | rfl | assumption) (by first | assumption | exact map_get (by assumption) | rfl) rfl | exact v_load_box ty22 rfl rfl (by assumption) rfl) rfl rfl ?_)
    refine g_step rfl (s_val (v_assign rfl) rfl rfl ?_)
    refine g_nil ?_
    refine g_next hK7 ?_
    refine g_seq (fun K8 hK8 => ?_)
    refine g_seq (fun K9 hK9 => ?_)
    refine g_region ?_
    refine g_step rfl (s_val (v_move rfl) rfl rfl ?_)
    refine g_step rfl (s_callp rfl rfl rfl (sorted_ok l _ (by omega) hsl) ?_)
    rintro _ rfl
    refine g_step rfl (s_val (v_not rfl) rfl rfl ?_)
    refine g_nil ?_
    refine g_next hK9 ?_
    refine g_cond rfl (fun hc25 => ?_) (fun hc25 => ?_)
    · try simp only [decide_eq_true_eq, decide_eq_false_iff_not, Bool.not_eq_true', Bool.not_eq_false', Bool.not_eq_eq_eq_not, Bool.not_true, Bool.not_false, Bool.and_eq_true, Bool.or_eq_true, Bool.or_eq_false_iff, beq_iff_eq, beq_eq_false_iff_ne, ne_eq, Int.not_lt, Int.not_le, Decidable.not_not] at hc25
      refine g_seq (fun K10 hK10 => ?_)
      refine g_region ?_
      refine g_step rfl (s_val (v_assign rfl) rfl rfl ?_)
      refine g_step rfl (s_val (v_assign rfl) rfl rfl ?_)
      refine g_nil ?_
      refine g_next hK10 ?_
      refine g_ret ?_
      refine g_then_ret ?_
      refine g_block_ret ?_
      refine g_then_ret ?_
      refine g_then_ret ?_
      refine g_block_ret ?_
      refine g_then_ret ?_
      refine g_end2 (.inl rfl) Try.results21 (.tmp rfl) (.tmp rfl) [] (ASub.tup (m := [.imm [], .bool false]) ⟨ASub.nil0, ASub.refl _, trivial⟩) (AHeap.sub_set (AHeap.sub_refl _) hr16) (fun p hp => by cases hp) ⟨rfl, ?_⟩
      first | (rw [mergeAll, if_neg (by rw [all_stop hl (by simpa using hc25)]; simp)]; done) | (rw [mergeAll, if_neg (by rw [all_stop hl (by simpa using hc25)]; simp)]; rfl)
    · try simp only [decide_eq_true_eq, decide_eq_false_iff_not, Bool.not_eq_true', Bool.not_eq_false', Bool.not_eq_eq_eq_not, Bool.not_true, Bool.not_false, Bool.and_eq_true, Bool.or_eq_true, Bool.or_eq_false_iff, beq_iff_eq, beq_eq_false_iff_ne, ne_eq, Int.not_lt, Int.not_le, Decidable.not_not] at hc25
      refine g_skip ?_
      refine g_next hK8 ?_
      refine g_seq (fun K11 hK11 => ?_)
      refine g_region ?_
      refine g_step rfl (s_val (v_move rfl) rfl rfl ?_)
      refine g_step rfl (s_val (v_len ty22 rfl (by first | rfl | assumption) (by first | exact List.length_map .. | rfl)) rfl rfl ?_)
      refine g_step rfl (s_val (v_move rfl) rfl rfl ?_)
      refine g_nil ?_
      refine g_next hK11 ?_
      refine g_block ?_
      first | refine g_keep [4, 17, 18, 19, 26, 27, 28] [] [] (keep_cons rfl (keep_cons rfl (keep_cons rfl (keep_cons rfl (keep_cons rfl (keep_cons rfl (keep_cons rfl keep_nil))))))) lkeep_nil keep_nil rfl ?_ | refine g_keep [4, 17, 18, 19, 26, 27, 28] [] [] rfl rfl rfl rfl ?_
      refine g_loop (fun n env L B G => ∃ (j : Nat) , j ≤ l.length ∧ n = l.length - j ∧ env = [(4, .map r16), (17, .imm (ls.map encRs)), (18, .int .i64 (ls.length : Int)), (19, .int .i64 (i : Int)), (26, (encRs l)), (27, .int .i64 (l.length : Int)), (28, .int .i64 (j : Int))] ∧ L = [] ∧ B = [] ∧ G = H.set r16 (mrow .i64 (mmap encR ((l.take j).foldl mstep (mrows (ls.take i).flatten))))) (l.length) ⟨0, Nat.zero_le _, rfl, rfl, rfl, rfl, rfl⟩ (fun n env L B G hI => ?_)
      obtain ⟨j, hj, rfl, rfl, rfl, rfl, rfl⟩ := hI
      refine g_seq (fun K12 hK12 => ?_)
      refine g_region ?_
      refine g_step rfl (s_val (v_lss rfl rfl) rfl rfl ?_)
      refine g_nil ?_
      refine g_next hK12 ?_
      refine g_seq (fun K13 hK13 => ?_)
      refine g_cond rfl (fun hc29 => ?_) (fun hc29 => ?_)
      · try simp only [decide_eq_true_eq, decide_eq_false_iff_not, Bool.not_eq_true', Bool.not_eq_false', Bool.not_eq_eq_eq_not, Bool.not_true, Bool.not_false, Bool.and_eq_true, Bool.or_eq_true, Bool.or_eq_false_iff, beq_iff_eq, beq_eq_false_iff_ne, ne_eq, Int.not_lt, Int.not_le, Decidable.not_not] at hc29
        obtain ⟨r, hr⟩ := get_some (l := l) (k := j) (by omega)
        have hrs := hsl r (mem_get hr)
        refine g_skip ?_
        refine g_next hK13 ?_
        refine g_seq (fun K14 hK14 => ?_)
        refine g_block ?_
        refine g_seq (fun K15 hK15 => ?_)
        refine g_region ?_
        refine g_step rfl (s_val (v_indexAddr ty22 ty46 rfl rfl (by first | rfl | assumption) (by first | rfl | exact (rfl : (0 : Int) = ((0 : Nat) : Int)) | exact (Int.toNat_of_nonneg (by omega)).symm) (by first | assumption | exact map_get (by assumption) | rfl) rfl) rfl rfl ?_)
        refine g_step rfl (s_val (by first | exact v_load_elt ty46 rfl rfl (by first | rfl | assumption) (by first | assumption | exact map_get (by assumption) | rfl) rfl rfl | exact v_load_box_all ty46 rfl rfl (by assumption) rfl rfl | exact v_load_part (cs := [_, _, _, _, _, _, _]) ty46 rfl rfl (by first | rfl | assumption) (by first | assumption | exact map_get (by assumption) | rfl) rfl rfl rfl | exact v_load_box_part (cs := [_, _, _, _, _, _, _]) ty46 rfl rfl (by assumption) rfl rfl rfl) rfl rfl ?_)
        refine g_step rfl (s_alloc (av := (.agg [(.int .i64 0), (.int .i64 0), (.int .i64 0), (.int .i64 0), (.int .i64 0), (.bool false), .nil0])) ty46 rfl rfl rfl rfl ?_)
        refine g_step rfl (s_store_all ty46 rfl rfl rfl rfl rfl rfl ?_)
        refine g_nil ?_
        refine g_next hK15 ?_
        refine g_cut (fun env L B G => ∃ (y : Rc), env = [(4, .map r16), (17, .imm (ls.map encRs)), (18, .int .i64 (ls.length : Int)), (19, .int .i64 (i : Int)), (26, (encRs l)), (27, .int .i64 (l.length : Int)), (28, .int .i64 (j : Int))] ∧ L = [(8, 8, 0)] ∧ B = [(8, (encR y))] ∧ G = H.set r16 (mrow .i64 (mmap encR ((l.take j).foldl mstep (mrows (ls.take i).flatten)))) ∧ y = mval ((l.take j).foldl mstep (mrows (ls.take i).flatten)) r) ?_ (fun env L B G hI => ?_)
        · skip
          refine g_seq (fun K16 hK16 => ?_)
          refine g_region ?_
          refine g_step rfl (s_val (v_move rfl) rfl rfl ?_)
          refine g_step rfl (s_fieldAddr ty46 fo46_0 ty3 rfl rfl ?_)
          refine g_step rfl (s_val (v_loadl ty3 rfl rfl rfl rfl) rfl rfl ?_)
          refine g_step rfl (s_val (v_sub (v_lookup (o := (mget (mmap encR ((l.take j).foldl mstep (mrows (ls.take i).flatten))) r.id).getD zrA) (f := (mget (mmap encR ((l.take j).foldl mstep (mrows (ls.take i).flatten))) r.id).isSome) ty105 ty3 ty46 rfl rfl rfl (AHeap.get_set _ _ _) rfl rfl) (look_sub2 ((l.take j).foldl mstep (mrows (ls.take i).flatten)) r.id)) rfl rfl ?_)
          refine g_step rfl (s_val (v_move rfl) rfl rfl ?_)
          refine g_step rfl (s_val (v_extract rfl rfl) rfl rfl ?_)
          refine g_step rfl (s_val (v_extract rfl rfl) rfl rfl ?_)
          refine g_step rfl (s_alloc (av := (.agg [(.int .i64 0), (.int .i64 0), (.int .i64 0), (.int .i64 0), (.int .i64 0), (.bool false), .nil0])) ty46 rfl rfl rfl rfl ?_)
          refine g_step rfl (s_store_all ty46 rfl rfl rfl rfl rfl rfl ?_)
          refine g_step rfl (s_val (v_assign rfl) rfl rfl ?_)
          refine g_nil ?_
          refine g_next hK16 ?_
          refine g_seq (fun K17 hK17 => ?_)
          refine g_region ?_
          refine g_step rfl (s_val (v_move rfl) rfl rfl ?_)
          refine g_nil ?_
          refine g_next hK17 ?_
          refine g_cond rfl (fun hc39 => ?_) (fun hc39 => ?_)
          · try simp only [decide_eq_true_eq, decide_eq_false_iff_not, Bool.not_eq_true', Bool.not_eq_false', Bool.not_eq_eq_eq_not, Bool.not_true, Bool.not_false, Bool.and_eq_true, Bool.or_eq_true, Bool.or_eq_false_iff, beq_iff_eq, beq_eq_false_iff_ne, ne_eq, Int.not_lt, Int.not_le, Decidable.not_not] at hc39
            obtain ⟨old, hold⟩ := Option.isSome_iff_exists.1 hc39
            refine g_region ?_
            refine g_step rfl (s_val (by first | exact v_loadl_all ty46 rfl rfl rfl rfl rfl | exact v_loadl_part (cs := [_, _, _, _, _, _, _]) ty46 rfl rfl rfl rfl rfl rfl) rfl rfl ?_)
            refine g_step rfl (s_val (by first | exact v_loadl_all ty46 rfl rfl rfl rfl rfl | exact v_loadl_part (cs := [_, _, _, _, _, _, _]) ty46 rfl rfl rfl rfl rfl rfl) rfl rfl ?_)
            refine g_step rfl (s_callp rfl rfl rfl (join_ok ((pget ((l.take j).foldl mstep (mrows (ls.take i).flatten)) r.id).getD rzero) r _ (getD_small (fun a ha => rows_small (l.take j) (mrows (ls.take i).flatten) (fun k a h => mrows_small (l := (ls.take i).flatten) (fun x hx => by obtain ⟨l', h1, h2⟩ := List.mem_flatten.1 hx; exact hsm l' (List.mem_of_mem_take h1) x h2) h) (fun x hx => hsl x (List.mem_of_mem_take hx)) _ a ha)) hrs) ?_)
            rintro _ rfl
            refine g_step rfl (s_val (v_move rfl) rfl rfl ?_)
            refine g_step rfl (s_val (v_extract rfl rfl) rfl rfl ?_)
            refine g_step rfl (s_val (v_extract rfl rfl) rfl rfl ?_)
            refine g_step rfl (s_store_all ty46 rfl rfl rfl rfl rfl rfl ?_)
            refine g_nil ?_
            first | refine g_keep [4, 17, 18, 19, 26, 27, 28] [8] [8] (keep_cons rfl (keep_cons rfl (keep_cons rfl (keep_cons rfl (keep_cons rfl (keep_cons rfl (keep_cons rfl keep_nil))))))) (lkeep_cons rfl lkeep_nil) (keep_cons rfl keep_nil) rfl ?_ | refine g_keep [4, 17, 18, 19, 26, 27, 28] [8] [8] rfl rfl rfl rfl ?_
            first | exact g_has ⟨jnAll ((pget ((l.take j).foldl mstep (mrows (ls.take i).flatten)) r.id).getD rzero) r, rfl, rfl, rfl, rfl, by rw [mval_some hold, hold]; rfl⟩ | exact g_has ⟨r, rfl, rfl, rfl, rfl, by rw [mval_none hnone]⟩
          · try simp only [decide_eq_true_eq, decide_eq_false_iff_not, Bool.not_eq_true', Bool.not_eq_false', Bool.not_eq_eq_eq_not, Bool.not_true, Bool.not_false, Bool.and_eq_true, Bool.or_eq_true, Bool.or_eq_false_iff, beq_iff_eq, beq_eq_false_iff_ne, ne_eq, Int.not_lt, Int.not_le, Decidable.not_not] at hc39
            have hnone : pget ((l.take j).foldl mstep (mrows (ls.take i).flatten)) r.id = none := by cases hp : pget ((l.take j).foldl mstep (mrows (ls.take i).flatten)) r.id <;> simp_all
            refine g_skip ?_
            first | refine g_keep [4, 17, 18, 19, 26, 27, 28] [8] [8] (keep_cons rfl (keep_cons rfl (keep_cons rfl (keep_cons rfl (keep_cons rfl (keep_cons rfl (keep_cons rfl keep_nil))))))) (lkeep_cons rfl lkeep_nil) (keep_cons rfl keep_nil) rfl ?_ | refine g_keep [4, 17, 18, 19, 26, 27, 28] [8] [8] rfl rfl rfl rfl ?_
            first | exact g_has ⟨jnAll ((pget ((l.take j).foldl mstep (mrows (ls.take i).flatten)) r.id).getD rzero) r, rfl, rfl, rfl, rfl, by rw [mval_some hold, hold]; rfl⟩ | exact g_has ⟨r, rfl, rfl, rfl, rfl, by rw [mval_none hnone]⟩
        · skip
          obtain ⟨y, rfl, rfl, rfl, rfl, hy⟩ := hI
          have hkd : Keyed ((l.take j).foldl mstep (mrows (ls.take i).flatten)) := foldl_keyed _ (mrows_keyed _)
          have hyid : y.id = r.id := by rw [hy]; exact mstep_val hkd r
          refine g_region ?_
          refine g_step rfl (s_val (v_move rfl) rfl rfl ?_)
          refine g_step rfl (s_fieldAddr ty46 fo46_0 ty3 rfl rfl ?_)
          refine g_step rfl (s_val (v_loadl ty3 rfl rfl rfl rfl) rfl rfl ?_)
          refine g_step rfl (s_val (by first | exact v_loadl_all ty46 rfl rfl rfl rfl rfl | exact v_loadl_part (cs := [_, _, _, _, _, _, _]) ty46 rfl rfl rfl rfl rfl rfl) rfl rfl ?_)
          refine g_step rfl (s_mapUpdate ty105 ty3 rfl rfl rfl (AHeap.get_set _ _ _) (.inr hw16) ?_)
          rw [AHeap.set_set, mput_mmap]
          refine g_nil ?_
          refine g_block_normal ?_
          refine g_next hK14 ?_
          refine g_region ?_
          refine g_step rfl (s_val (v_add rfl rfl (by omega)) rfl rfl ?_)
          refine g_step rfl (s_val (v_move rfl) rfl rfl ?_)
          refine g_nil ?_
          first | refine g_keep [4, 17, 18, 19, 26, 27, 28] [] [] (keep_cons rfl (keep_cons rfl (keep_cons rfl (keep_cons rfl (keep_cons rfl (keep_cons rfl (keep_cons rfl keep_nil))))))) lkeep_nil keep_nil rfl ?_ | refine g_keep [4, 17, 18, 19, 26, 27, 28] [] [] rfl rfl rfl rfl ?_
          exact g_round _ (by omega) ⟨j + 1, by omega, rfl, rfl, rfl, rfl, (by rw [mstep_snoc hr, mstep, ← hy, hyid])⟩
      · try simp only [decide_eq_true_eq, decide_eq_false_iff_not, Bool.not_eq_true', Bool.not_eq_false', Bool.not_eq_eq_eq_not, Bool.not_true, Bool.not_false, Bool.and_eq_true, Bool.or_eq_true, Bool.or_eq_false_iff, beq_iff_eq, beq_eq_false_iff_ne, ne_eq, Int.not_lt, Int.not_le, Decidable.not_not] at hc29
        obtain rfl : j = l.length := by omega
        skip
        refine g_exit ?_
        refine g_then_exit ?_
        refine g_then_exit ?_
        refine g_block_same ?_
        refine g_block_normal ?_
        refine g_next hK6 ?_
        refine g_region ?_
        refine g_step rfl (s_val (v_add rfl rfl (by omega)) rfl rfl ?_)
        refine g_step rfl (s_val (v_move rfl) rfl rfl ?_)
        refine g_nil ?_
        first | refine g_keep [4, 17, 18, 19] [] [] (keep_cons rfl (keep_cons rfl (keep_cons rfl (keep_cons rfl keep_nil)))) lkeep_nil keep_nil rfl ?_ | refine g_keep [4, 17, 18, 19] [] [] rfl rfl rfl rfl ?_
        exact g_round _ (by omega) ⟨i + 1, by omega, rfl, rfl, rfl, rfl, (by rw [List.take_length, ← mrows_snoc hl]), by rw [all_snoc hl, hc, Bool.true_and]; simpa using hc25⟩
  · try simp only [decide_eq_true_eq, decide_eq_false_iff_not, Bool.not_eq_true', Bool.not_eq_false', Bool.not_eq_eq_eq_not, Bool.not_true, Bool.not_false, Bool.and_eq_true, Bool.or_eq_true, Bool.or_eq_false_iff, beq_iff_eq, beq_eq_false_iff_ne, ne_eq, Int.not_lt, Int.not_le, Decidable.not_not] at hc20
    obtain rfl : i = ls.length := by omega
    rw [List.take_length] at hc ⊢
    refine g_exit ?_
    refine g_then_exit ?_
    refine g_then_exit ?_
    refine g_block_same ?_
    refine g_next hK2 ?_
    refine g_seq (fun K18 hK18 => ?_)
    refine g_region ?_
    refine g_step rfl (s_val (v_assign rfl) rfl rfl ?_)
    refine g_nil ?_
    refine g_next hK18 ?_
    refine g_seq (fun K19 hK19 => ?_)
    refine g_seq (fun K20 hK20 => ?_)
    refine g_region ?_
    have hMl : (mrows ls.flatten).length ≤ 100000 := Nat.le_trans (mrows_length _) hT
    refine g_step rfl (s_val (v_move rfl) rfl rfl ?_)
    refine g_mapb (AHeap.get_set _ _ _) (fun bs clk hbl hbc hbp => ?_)
    rw [AHeap.set_set]
    refine g_step rfl (s_range ty105 rfl rfl (AHeap.get_set _ _ _) (fun bi hbi1 hbi2 => ?_))
    have hbir : bi ≠ r16 := fun e => by subst e; rw [AHeap.get_set] at hbi1; cases hbi1
    have hbl' : bs.length = (mrows ls.flatten).length := by simpa [mmap] using hbl
    refine g_nil ?_
    refine g_next hK20 ?_
    refine g_block ?_
    first | refine g_keep [4, 11, 53] [] [] (keep_cons rfl (keep_cons rfl (keep_cons rfl keep_nil))) lkeep_nil keep_nil rfl ?_ | refine g_keep [4, 11, 53] [] [] rfl rfl rfl rfl ?_
    refine g_loop (fun n env L B G => ∃ (k : Nat) (J : List Nat) (last : Nat) (ids : List Int) (av : AV), k ≤ (mrows ls.flatten).length ∧ n = (mrows ls.flatten).length - k ∧ env = [(4, .map r16), (11, av), (53, .box bi 0)] ∧ L = [] ∧ B = [] ∧ Own w0.heap.size 1 ((H.set r16 (.mapb ((mmap encR (mrows ls.flatten)).map fun p => (.int .i64 p.1, p.2)) bs clk)).set bi (.iter r16 clk (J.map fun j => (bs[j]?).getD 0) last)) av (ids.map (.int .i64)) G ∧ J.length = k ∧ J.Nodup ∧ (∀ j ∈ J, j < (mrows ls.flatten).length) ∧ ids = J.map (atOr (mrows ls.flatten)) ∧ clk ≤ last) ((mrows ls.flatten).length) ⟨0, [], clk, [], .nil0, Nat.zero_le _, rfl, rfl, rfl, rfl, ⟨Own.nil .., rfl, List.nodup_nil, (fun j h => by cases h), rfl, Nat.le_refl _⟩⟩ (fun n env L B G hI => ?_)
    obtain ⟨k, J, last, ids, av, hk, rfl, rfl, rfl, rfl, hown, hJl, hJn, hJb, hids, hlast⟩ := hI
    have hGi := hown.sub _ _ (AHeap.get_set _ bi _)
    have hGm := hown.sub r16 _ (by rw [AHeap.get_set_ne _ _ (Ne.symm hbir), AHeap.get_set])
    refine g_seq (fun K21 hK21 => ?_)
    refine g_region ?_
    refine g_step rfl (s_next rfl rfl hGm hGi hbc hlast (.inr hbi2) (fun hall => ?_) (fun ix hi hb hns => ?_))
    · skip
      skip
      refine g_step rfl (s_val (v_extract rfl rfl) rfl rfl ?_)
      refine g_nil ?_
      refine g_next hK21 ?_
      refine g_seq (fun K22 hK22 => ?_)
      refine g_cond rfl (fun hc55 => ?_) (fun hc55 => ?_)
      · exfalso; (try simp only [decide_eq_true_eq, decide_eq_false_iff_not, Bool.not_eq_true', Bool.not_eq_false', Bool.not_eq_eq_eq_not, Bool.not_true, Bool.not_false, Bool.and_eq_true, Bool.or_eq_true, Bool.or_eq_false_iff, beq_iff_eq, beq_eq_false_iff_ne, ne_eq, Int.not_lt, Int.not_le, Decidable.not_not] at hc55); cases hc55
      · try simp only [decide_eq_true_eq, decide_eq_false_iff_not, Bool.not_eq_true', Bool.not_eq_false', Bool.not_eq_eq_eq_not, Bool.not_true, Bool.not_false, Bool.and_eq_true, Bool.or_eq_true, Bool.or_eq_false_iff, beq_iff_eq, beq_eq_false_iff_ne, ne_eq, Int.not_lt, Int.not_le, Decidable.not_not] at hc55
        refine g_exit ?_
        refine g_then_exit ?_
        refine g_then_exit ?_
        refine g_block_same ?_
        refine g_next hK19 ?_
        refine g_cut (fun env L B G => ∃ (rm : Nat) (Bs : AHeap) (av4 : AV), env = [(4, .map rm), (11, av4)] ∧ L = [] ∧ B = [] ∧ Own w0.heap.size 1 Bs av4 ((mkeys ls.flatten).map (.int .i64)) G ∧ Bs rm = some (mrow .i64 (mmap encR (mrows ls.flatten))) ∧ H.sub Bs ∧ ls.all srt = true) ?_ (fun env L B G hI => ?_)
        · skip
          refine g_region ?_
          have hperm := collected hbl' hbp hJn hJb hall
          rw [← hids] at hperm
          have hsort : (ids.mergeSort fun x y => decide (x ≤ y)) = (mkeys ls.flatten) := mergeSort_perm hperm
          have hidl : ids.length ≤ 100000 := by rw [hperm.length_eq, List.length_map]; exact hMl
          refine g_unmapb hGm ?_
          have hown3 := own_put (.map ((mmap encR (mrows ls.flatten)).map fun p => (.int .i64 p.1, p.2))) hown (show _ = some _ by rw [AHeap.get_set_ne _ _ (Ne.symm hbir), AHeap.get_set])
          have hbi3 : H bi = none := sub_none (AHeap.sub_set (AHeap.sub_refl _) hr16) hbi1
          refine g_step rfl (s_val (v_move rfl) rfl rfl ?_)
          rcases hown3 with ⟨e1, e2, e3⟩ | ⟨rr, e1, e2, e3, e4⟩
          · skip
            subst e1
            refine g_step rfl (s_callp rfl rfl rfl (sortNil_ok _) ?_)
            rintro _ rfl
            refine g_nil ?_
            first | refine g_keep [4, 11] [] [] (keep_cons rfl (keep_cons rfl keep_nil)) lkeep_nil keep_nil rfl ?_ | refine g_keep [4, 11] [] [] rfl rfl rfl rfl ?_
            first | exact g_has ⟨r16, (((H.set r16 (.mapb ((mmap encR (mrows ls.flatten)).map fun p => (.int .i64 p.1, p.2)) bs clk)).set bi (.iter r16 clk (J.map fun j => (bs[j]?).getD 0) last))).set r16 (mrow .i64 (mmap encR (mrows ls.flatten))), .own rr 1 0 ids.length, rfl, rfl, rfl, ⟨.inr ⟨rr, e1, e2, by rw [← hsort]; simp, by rw [← hsort]; exact AHeap.set_set _ _ _ _⟩, AHeap.get_set _ _ _, sub_set_free _ (sub_set_free _ (sub_set_free _ (AHeap.sub_refl _) hr16) hbi3) hr16, hc⟩⟩ | exact g_has ⟨r16, (((H.set r16 (.mapb ((mmap encR (mrows ls.flatten)).map fun p => (.int .i64 p.1, p.2)) bs clk)).set bi (.iter r16 clk (J.map fun j => (bs[j]?).getD 0) last))).set r16 (mrow .i64 (mmap encR (mrows ls.flatten))), .nil0, rfl, rfl, rfl, ⟨.inl ⟨rfl, by rw [← hsort]; have h0 : ids = [] := (by simpa using e2); rw [h0]; simp, e3⟩, AHeap.get_set _ _ _, sub_set_free _ (sub_set_free _ (sub_set_free _ (AHeap.sub_refl _) hr16) hbi3) hr16, hc⟩⟩
          · skip
            rw [List.length_map] at e3
            subst e3
            rw [e4]
            refine g_step rfl (s_call rfl rfl rfl (sortInts_ok rr ids _ (AHeap.get_set _ _ _) (by omega)) (fun b hb => .inr (by subst hb; exact e2)) ?_)
            rintro n5 _ effs5 hn5 hdom5 ⟨rfl, rfl⟩ hok5
            refine g_nil ?_
            first | refine g_keep [4, 11] [] [] (keep_cons rfl (keep_cons rfl keep_nil)) lkeep_nil keep_nil rfl ?_ | refine g_keep [4, 11] [] [] rfl rfl rfl rfl ?_
            first | exact g_has ⟨r16, (((H.set r16 (.mapb ((mmap encR (mrows ls.flatten)).map fun p => (.int .i64 p.1, p.2)) bs clk)).set bi (.iter r16 clk (J.map fun j => (bs[j]?).getD 0) last))).set r16 (mrow .i64 (mmap encR (mrows ls.flatten))), .own rr 1 0 ids.length, rfl, rfl, rfl, ⟨.inr ⟨rr, e1, e2, by rw [← hsort]; simp, by rw [← hsort]; exact AHeap.set_set _ _ _ _⟩, AHeap.get_set _ _ _, sub_set_free _ (sub_set_free _ (sub_set_free _ (AHeap.sub_refl _) hr16) hbi3) hr16, hc⟩⟩ | exact g_has ⟨r16, (((H.set r16 (.mapb ((mmap encR (mrows ls.flatten)).map fun p => (.int .i64 p.1, p.2)) bs clk)).set bi (.iter r16 clk (J.map fun j => (bs[j]?).getD 0) last))).set r16 (mrow .i64 (mmap encR (mrows ls.flatten))), .nil0, rfl, rfl, rfl, ⟨.inl ⟨rfl, by rw [← hsort]; have h0 : ids = [] := (by simpa using e2); rw [h0]; simp, e3⟩, AHeap.get_set _ _ _, sub_set_free _ (sub_set_free _ (sub_set_free _ (AHeap.sub_refl _) hr16) hbi3) hr16, hc⟩⟩
        · skip
          obtain ⟨rm, Bs, av4, rfl, rfl, rfl, hown4, hrm, hHB, hsrt⟩ := hI
          have hrmG := hown4.sub _ _ hrm
          obtain ⟨G0, hG0⟩ : ∃ G0, G0 = G := ⟨G, rfl⟩
          rw [hG0.symm] at hown4 hrmG
          have hkl : (mkeys ls.flatten).length ≤ 100000 := Nat.le_trans (mkeys_length _) hT
          refine g_seq (fun K23 hK23 => ?_)
          refine g_region ?_
          refine g_step rfl (s_val (v_assign rfl) rfl rfl ?_)
          refine g_nil ?_
          refine g_next hK23 ?_
          refine g_seq (fun K24 hK24 => ?_)
          refine g_seq (fun K25 hK25 => ?_)
          refine g_region ?_
          refine g_step rfl (s_val (v_move rfl) rfl rfl ?_)
          refine g_step rfl (s_val (v_len ty71 rfl (hG0 ▸ hown4.view) (by simp; rfl)) rfl rfl ?_)
          refine g_step rfl (s_val (v_move rfl) rfl rfl ?_)
          refine g_nil ?_
          refine g_next hK25 ?_
          refine g_block ?_
          first | refine g_keep [4, 13, 64, 65, 66] [] [] (keep_cons rfl (keep_cons rfl (keep_cons rfl (keep_cons rfl (keep_cons rfl keep_nil))))) lkeep_nil keep_nil rfl ?_ | refine g_keep [4, 13, 64, 65, 66] [] [] rfl rfl rfl rfl ?_
          refine g_loop (fun n env L B G => ∃ (k : Nat) (av5 : AV), k ≤ (mkeys ls.flatten).length ∧ n = (mkeys ls.flatten).length - k ∧ env = [(4, .map rm), (13, av5), (64, av4), (65, .int .i64 ((mkeys ls.flatten).length : Int)), (66, .int .i64 (k : Int))] ∧ L = [] ∧ B = [] ∧ Own w0.heap.size 7 G0 av5 ((((mkeys ls.flatten).take k).map (fun k => (pget (mrows ls.flatten) k).getD rzero)).map encR) G) ((mkeys ls.flatten).length) ⟨0, .nil0, Nat.zero_le _, rfl, rfl, rfl, rfl, by rw [hG0]; exact Own.nil ..⟩ (fun n env L B G hI => ?_)
          obtain ⟨k, av5, hk, rfl, rfl, rfl, rfl, hown5⟩ := hI
          have hv4 := view_sub hown5.sub hown4.view
          have hrm5 := hown5.sub _ _ hrmG
          refine g_seq (fun K26 hK26 => ?_)
          refine g_region ?_
          refine g_step rfl (s_val (v_lss rfl rfl) rfl rfl ?_)
          refine g_nil ?_
          refine g_next hK26 ?_
          refine g_seq (fun K27 hK27 => ?_)
          refine g_cond rfl (fun hc67 => ?_) (fun hc67 => ?_)
          · try simp only [decide_eq_true_eq, decide_eq_false_iff_not, Bool.not_eq_true', Bool.not_eq_false', Bool.not_eq_eq_eq_not, Bool.not_true, Bool.not_false, Bool.and_eq_true, Bool.or_eq_true, Bool.or_eq_false_iff, beq_iff_eq, beq_eq_false_iff_ne, ne_eq, Int.not_lt, Int.not_le, Decidable.not_not] at hc67
            obtain ⟨z, hz⟩ := get_some (l := (mkeys ls.flatten)) (k := k) (by omega)
            refine g_skip ?_
            refine g_next hK27 ?_
            refine g_seq (fun K28 hK28 => ?_)
            refine g_block ?_
            refine g_seq (fun K29 hK29 => ?_)
            refine g_region ?_
            refine g_step rfl (s_val (v_indexAddr ty71 ty3 rfl rfl hv4 (by first | rfl | exact (rfl : (0 : Int) = ((0 : Nat) : Int)) | exact (Int.toNat_of_nonneg (by omega)).symm) (map_get hz) rfl) rfl rfl ?_)
            refine g_step rfl (s_val (by first | exact v_load ty3 rfl rfl hv4 (map_get hz) rfl | exact v_load_box ty3 rfl rfl (by assumption) rfl) rfl rfl ?_)
            refine g_step rfl (s_val (v_assign rfl) rfl rfl ?_)
            refine g_nil ?_
            refine g_next hK29 ?_
            refine g_region ?_
            refine g_step rfl (s_val (v_move rfl) rfl rfl ?_)
            refine g_step rfl (s_val (v_move rfl) rfl rfl ?_)
            refine g_step rfl (s_val (v_move rfl) rfl rfl ?_)
            refine g_step rfl (s_val (v_sub (v_lookup (o := (mget (mmap encR (mrows ls.flatten)) z).getD zrA) (f := (mget (mmap encR (mrows ls.flatten)) z).isSome) ty105 ty3 ty46 rfl rfl rfl hrm5 rfl rfl) (look_sub (mrows ls.flatten) z)) rfl rfl ?_)
            refine g_step rfl (s_lit ty22 ty46 rfl rfl rfl rfl rfl rfl rfl ?_)
            refine g_step rfl (s_append (l := ((((mkeys ls.flatten).take k).map (fun k => (pget (mrows ls.flatten) k).getD rzero)).map encR)) (m := ([(fun k => (pget (mrows ls.flatten) k).getD rzero) z].map encR)) ty22 ty46 rfl rfl hown5 rfl rfl (by refine Even.map _ ?_ _; intro _; rfl) (by intro x hx; obtain ⟨_, _, rfl⟩ := List.mem_map.1 hx; rfl) rfl (by simp; omega) (by simp; omega) ?_)
            intro av75 G75 h75
            refine g_step rfl (s_val (v_assign rfl) rfl rfl ?_)
            refine g_nil ?_
            refine g_block_normal ?_
            refine g_next hK28 ?_
            refine g_region ?_
            refine g_step rfl (s_val (v_add rfl rfl (by omega)) rfl rfl ?_)
            refine g_step rfl (s_val (v_move rfl) rfl rfl ?_)
            refine g_nil ?_
            first | refine g_keep [4, 13, 64, 65, 66] [] [] (keep_cons rfl (keep_cons rfl (keep_cons rfl (keep_cons rfl (keep_cons rfl keep_nil))))) lkeep_nil keep_nil rfl ?_ | refine g_keep [4, 13, 64, 65, 66] [] [] rfl rfl rfl rfl ?_
            exact g_round _ (by omega) ⟨k + 1, av75, by omega, rfl, rfl, rfl, rfl, by rw [List.take_add_one, hz, List.map_append, List.map_append]; exact h75⟩
          · try simp only [decide_eq_true_eq, decide_eq_false_iff_not, Bool.not_eq_true', Bool.not_eq_false', Bool.not_eq_eq_eq_not, Bool.not_true, Bool.not_false, Bool.and_eq_true, Bool.or_eq_true, Bool.or_eq_false_iff, beq_iff_eq, beq_eq_false_iff_ne, ne_eq, Int.not_lt, Int.not_le, Decidable.not_not] at hc67
            obtain rfl : k = (mkeys ls.flatten).length := by omega
            rw [List.take_length] at hown5
            refine g_exit ?_
            refine g_then_exit ?_
            refine g_then_exit ?_
            refine g_block_same ?_
            refine g_next hK24 ?_
            refine g_seq (fun K30 hK30 => ?_)
            refine g_region ?_
            refine g_step rfl (s_val (v_move rfl) rfl rfl ?_)
            refine g_step rfl (s_callp rfl rfl rfl (recCopy_ok (mergeL ls.flatten) _ av5 hown5.view (by have := mergeL_length ls.flatten; omega) (mergeL_small (fun x hx => by obtain ⟨l', h1, h2⟩ := List.mem_flatten.1 hx; exact hsm l' h1 x h2))) ?_)
            rintro _ rfl
            refine g_step rfl (s_val (v_assign rfl) rfl rfl ?_)
            refine g_step rfl (s_val (v_assign rfl) rfl rfl ?_)
            refine g_nil ?_
            refine g_next hK30 ?_
            refine g_ret ?_
            refine g_end2 (.inl rfl) Try.results21 (.tmp rfl) (.tmp rfl) [] (ASub.refl _) (AHeap.sub_trans hHB (AHeap.sub_trans hown4.sub hown5.sub)) (fun p hp => by cases hp) ⟨rfl, ?_⟩
            first | (rw [mergeAll, if_pos hsrt]; done) | (rw [mergeAll, if_pos hsrt]; rfl)
    · skip
      have hixJ := notin_map hb hns
      have hJn' : (J ++ [ix]).Nodup := List.nodup_append.2 ⟨hJn, by simp, fun a ha b hb' => by simp at hb'; subst hb'; exact fun e => hixJ (e ▸ ha)⟩
      have hil : ix < (mrows ls.flatten).length := by simpa [mmap] using hi
      have hJb' : ∀ j ∈ J ++ [ix], j < (mrows ls.flatten).length := fun j hj => by rcases List.mem_append.1 hj with h | h; exact hJb j h; simp at h; omega
      have hk1 := places_le hJn' hJb'
      have hidk : ids.length = k := by rw [hids, List.length_map, hJl]
      simp only [List.length_append, List.length_singleton, hJl] at hk1
      have hown2 := own_put (.iter r16 clk ((J.map fun j => (bs[j]?).getD 0) ++ [bs[ix]]) clk) hown (AHeap.get_set _ bi _)
      rw [AHeap.set_set] at hown2
      have hGi2 := hown2.sub _ _ (AHeap.get_set _ bi _)
      have hGm2 := hown2.sub r16 _ (by rw [AHeap.get_set_ne _ _ (Ne.symm hbir), AHeap.get_set])
      have hse : (J.map fun j => (bs[j]?).getD 0) ++ [bs[ix]] = (J ++ [ix]).map fun j => (bs[j]?).getD 0 := by simp [hb]
      have hat : (((mmap encR (mrows ls.flatten)).map fun p => ((.int .i64 p.1 : AV), p.2))[ix]'hi).1 = .int .i64 (atOr (mrows ls.flatten) ix) := by simp [mmap, atOr, hil]
      refine g_step rfl (s_val (v_extract rfl rfl) rfl rfl ?_)
      refine g_nil ?_
      refine g_next hK21 ?_
      refine g_seq (fun K31 hK31 => ?_)
      refine g_cond rfl (fun hc55 => ?_) (fun hc55 => ?_)
      · try simp only [decide_eq_true_eq, decide_eq_false_iff_not, Bool.not_eq_true', Bool.not_eq_false', Bool.not_eq_eq_eq_not, Bool.not_true, Bool.not_false, Bool.and_eq_true, Bool.or_eq_true, Bool.or_eq_false_iff, beq_iff_eq, beq_eq_false_iff_ne, ne_eq, Int.not_lt, Int.not_le, Decidable.not_not] at hc55
        refine g_skip ?_
        refine g_next hK31 ?_
        refine g_block ?_
        refine g_seq (fun K32 hK32 => ?_)
        refine g_region ?_
        refine g_step rfl (s_val (v_entry rfl hGm2 hi hb hGi2) rfl rfl ?_)
        refine g_step rfl (s_val (v_extract rfl (congrArg some hat)) rfl rfl ?_)
        refine g_step rfl (s_val (v_assign rfl) rfl rfl ?_)
        refine g_nil ?_
        refine g_next hK32 ?_
        refine g_region ?_
        refine g_step rfl (s_val (v_move rfl) rfl rfl ?_)
        refine g_step rfl (s_val (v_move rfl) rfl rfl ?_)
        refine g_step rfl (s_lit ty71 ty3 rfl rfl rfl rfl rfl rfl rfl ?_)
        refine g_step rfl (s_append (l := (ids.map (.int .i64))) (m := ([atOr (mrows ls.flatten) ix].map (.int .i64))) ty71 ty3 rfl rfl hown2 rfl rfl (by refine Even.map _ ?_ _; intro _; rfl) (by intro x hx; obtain ⟨_, _, rfl⟩ := List.mem_map.1 hx; rfl) rfl (by simp; omega) (by simp; omega) ?_)
        intro av61 G61 h61
        rw [hse] at h61
        refine g_step rfl (s_val (v_assign rfl) rfl rfl ?_)
        refine g_nil ?_
        refine g_block_normal ?_
        first | refine g_keep [4, 11, 53] [] [] (keep_cons rfl (keep_cons rfl (keep_cons rfl keep_nil))) lkeep_nil keep_nil rfl ?_ | refine g_keep [4, 11, 53] [] [] rfl rfl rfl rfl ?_
        exact g_round _ (by omega) ⟨k + 1, J ++ [ix], clk, ids ++ [atOr (mrows ls.flatten) ix], av61, by omega, rfl, rfl, rfl, rfl, ⟨by rw [show (ids ++ [atOr (mrows ls.flatten) ix]).map (AV.int .i64) = ids.map (.int .i64) ++ [atOr (mrows ls.flatten) ix].map (.int .i64) from List.map_append]; exact h61, by simp [hJl], hJn', hJb', by rw [hids, List.map_append]; rfl, Nat.le_refl _⟩⟩
      · exfalso; (try simp only [decide_eq_true_eq, decide_eq_false_iff_not, Bool.not_eq_true', Bool.not_eq_false', Bool.not_eq_eq_eq_not, Bool.not_true, Bool.not_false, Bool.and_eq_true, Bool.or_eq_true, Bool.or_eq_false_iff, beq_iff_eq, beq_eq_false_iff_ne, ne_eq, Int.not_lt, Int.not_le, Decidable.not_not] at hc55); cases hc55

end Go.Proofs.Ytgipbhfblmblcaa

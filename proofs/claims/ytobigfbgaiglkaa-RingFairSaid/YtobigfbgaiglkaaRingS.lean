import Derived.Test.YtobigfbgaiglkaaPRing
import Derived.Test.YtobigfbgaiglkaaSortLay
import Derived.Test.YtobigfbgaiglkaaFacts
set_option maxHeartbeats 8000000
set_option linter.unusedSimpArgs false
set_option linter.unusedVariables false
set_option maxRecDepth 100000
namespace Go.Proofs.Ytobigfbgaiglkaa
open Go Go.Proofs.Ytobigfbgaiglkaa.AM
theorem len64z_ok (G : AHeap) : PCalls Try.prog 119 [.int .u64 0] G (fun v => v = .int .i64 0) := by
 refine LCalls.intro 25 fi119 rfl Try.ntmps119 rfl (fun _ h => h.elim) (fun H hH w0 hw0 => ?_)
 refine g_seq (fun K0 hK0 => ?_)
 refine g_region ?_
 refine g_step rfl (s_val (v_assign rfl) rfl rfl ?_)
 refine g_nil ?_
 refine g_next hK0 ?_
 refine g_seq (fun K1 hK1 => ?_)
 refine g_seq (fun K2 hK2 => ?_)
 refine g_region ?_
 refine g_step rfl (s_val (v_move rfl) rfl rfl ?_)
 refine g_step rfl (s_val (v_geq rfl rfl) rfl rfl ?_)
 refine g_nil ?_
 refine g_next hK2 ?_
 refine g_cond rfl (fun hc4 => ?_) (fun hc4 => ?_)
 · exfalso; (try simp only [decide_eq_true_eq, decide_eq_false_iff_not, Bool.not_eq_true', Bool.not_eq_false', Bool.not_eq_eq_eq_not, Bool.not_true, Bool.not_false, Bool.and_eq_true, Bool.or_eq_true, Bool.or_eq_false_iff, beq_iff_eq, beq_eq_false_iff_ne, ne_eq, Int.not_lt, Int.not_le, Decidable.not_not] at hc4); exact absurd hc4 (by decide)
 ·
  try simp only [decide_eq_true_eq, decide_eq_false_iff_not, Bool.not_eq_true', Bool.not_eq_false', Bool.not_eq_eq_eq_not, Bool.not_true, Bool.not_false, Bool.and_eq_true, Bool.or_eq_true, Bool.or_eq_false_iff, beq_iff_eq, beq_eq_false_iff_ne, ne_eq, Int.not_lt, Int.not_le, Decidable.not_not] at hc4
  refine g_skip ?_
  refine g_next hK1 ?_
  refine g_seq (fun K3 hK3 => ?_)
  refine g_seq (fun K4 hK4 => ?_)
  refine g_region ?_
  refine g_step rfl (s_val (v_move rfl) rfl rfl ?_)
  refine g_step rfl (s_val (v_geq rfl rfl) rfl rfl ?_)
  refine g_nil ?_
  refine g_next hK4 ?_
  refine g_cond rfl (fun hc8 => ?_) (fun hc8 => ?_)
  · exfalso; (try simp only [decide_eq_true_eq, decide_eq_false_iff_not, Bool.not_eq_true', Bool.not_eq_false', Bool.not_eq_eq_eq_not, Bool.not_true, Bool.not_false, Bool.and_eq_true, Bool.or_eq_true, Bool.or_eq_false_iff, beq_iff_eq, beq_eq_false_iff_ne, ne_eq, Int.not_lt, Int.not_le, Decidable.not_not] at hc8); exact absurd hc8 (by decide)
  ·
   try simp only [decide_eq_true_eq, decide_eq_false_iff_not, Bool.not_eq_true', Bool.not_eq_false', Bool.not_eq_eq_eq_not, Bool.not_true, Bool.not_false, Bool.and_eq_true, Bool.or_eq_true, Bool.or_eq_false_iff, beq_iff_eq, beq_eq_false_iff_ne, ne_eq, Int.not_lt, Int.not_le, Decidable.not_not] at hc8
   refine g_skip ?_
   refine g_next hK3 ?_
   refine g_seq (fun K5 hK5 => ?_)
   refine g_seq (fun K6 hK6 => ?_)
   refine g_region ?_
   refine g_step rfl (s_val (v_move rfl) rfl rfl ?_)
   refine g_step rfl (s_val (v_geq rfl rfl) rfl rfl ?_)
   refine g_nil ?_
   refine g_next hK6 ?_
   refine g_cond rfl (fun hc14 => ?_) (fun hc14 => ?_)
   · exfalso; (try simp only [decide_eq_true_eq, decide_eq_false_iff_not, Bool.not_eq_true', Bool.not_eq_false', Bool.not_eq_eq_eq_not, Bool.not_true, Bool.not_false, Bool.and_eq_true, Bool.or_eq_true, Bool.or_eq_false_iff, beq_iff_eq, beq_eq_false_iff_ne, ne_eq, Int.not_lt, Int.not_le, Decidable.not_not] at hc14); exact absurd hc14 (by decide)
   ·
    try simp only [decide_eq_true_eq, decide_eq_false_iff_not, Bool.not_eq_true', Bool.not_eq_false', Bool.not_eq_eq_eq_not, Bool.not_true, Bool.not_false, Bool.and_eq_true, Bool.or_eq_true, Bool.or_eq_false_iff, beq_iff_eq, beq_eq_false_iff_ne, ne_eq, Int.not_lt, Int.not_le, Decidable.not_not] at hc14
    refine g_skip ?_
    refine g_next hK5 ?_
    refine g_seq (fun K7 hK7 => ?_)
    refine g_region ?_
    refine g_step rfl (s_val (v_move rfl) rfl rfl ?_)
    refine g_step rfl (s_val (v_move rfl) rfl rfl ?_)
    refine g_step rfl (s_val (v_conv_int (m := 0) ty204 ty5 rfl (by decide)) rfl rfl ?_)
    refine g_step rfl (s_val (v_index_str (i := 0) (b := 0) ty9 rfl rfl (by first | rfl | exact (rfl : (0 : Int) = ((0 : Nat) : Int)) | exact (Int.toNat_of_nonneg (by omega)).symm) rfl) rfl rfl ?_)
    refine g_step rfl (s_val (v_conv_int (m := 0) ty5 ty3 rfl (by decide)) rfl rfl ?_)
    refine g_step rfl (s_val (v_add rfl rfl (by omega)) rfl rfl ?_)
    refine g_step rfl (s_val (v_assign rfl) rfl rfl ?_)
    refine g_nil ?_
    refine g_next hK7 ?_
    refine g_ret ?_
    refine g_end1 (.inl rfl) Try.results119 (.tmp rfl) [] (ASub.refl _) (AHeap.sub_refl _) (fun p hp => by cases hp) ⟨rfl, ?_⟩
    rfl

theorem lenz_ok (G : AHeap) : PCalls Try.prog 91 [.int .u64 0] G (fun v => v = .int .i64 0) := by
 refine LCalls.intro 8 fi91 rfl Try.ntmps91 rfl (fun _ h => h.elim) (fun H hH w0 hw0 => ?_)
 refine g_seq (fun K0 hK0 => ?_)
 refine g_region ?_
 refine g_step rfl (s_val (v_assign rfl) rfl rfl ?_)
 refine g_nil ?_
 refine g_next hK0 ?_
 refine g_seq (fun K1 hK1 => ?_)
 refine g_cond rfl (fun h => by cases h) (fun _ => ?_)
 refine g_skip ?_
 refine g_next hK1 ?_
 refine g_seq (fun K2 hK2 => ?_)
 refine g_region ?_
 refine g_step rfl (s_val (v_move rfl) rfl rfl ?_)
 refine g_step rfl (s_callp rfl rfl rfl (len64z_ok _) ?_)
 rintro _ rfl
 refine g_step rfl (s_val (v_assign rfl) rfl rfl ?_)
 refine g_nil ?_
 refine g_next hK2 ?_
 refine g_ret ?_
 refine g_end1 (.inl rfl) Try.results91 (.tmp rfl) [] (ASub.refl _) (AHeap.sub_refl _) (fun p hp => by cases hp) ⟨rfl, ?_⟩
 rfl

theorem insSortNil_ok (G : AHeap) : PCalls Try.prog 110 [.nil0, .int .i64 0, .int .i64 0] G (fun v => v = .tup []) := by
 refine LCalls.intro 49 fi110 rfl Try.ntmps110 rfl (fun _ h => h.elim) (fun H hH w0 hw0 => ?_)
 refine g_seq (fun K0 hK0 => ?_)
 refine g_region ?_
 refine g_step rfl (s_val (v_move rfl) rfl rfl ?_)
 refine g_step rfl (s_val (v_add rfl rfl (by omega)) rfl rfl ?_)
 refine g_step rfl (s_val (v_assign rfl) rfl rfl ?_)
 refine g_nil ?_
 refine g_next hK0 ?_
 refine g_block ?_
 first | refine g_keep [0, 1, 2, 6] [] [] (keep_cons rfl (keep_cons rfl (keep_cons rfl (keep_cons rfl keep_nil)))) lkeep_nil keep_nil rfl ?_ | refine g_keep [0, 1, 2, 6] [] [] rfl rfl rfl rfl ?_
 refine g_loop (fun n env L B G => env = [(0, .nil0), (1, .int .i64 0), (2, .int .i64 0), (6, .int .i64 (0 + 1))] ∧ L = [] ∧ B = [] ∧ H = G) 0 ⟨rfl, rfl, rfl, rfl⟩ (fun n env L B G hI => ?_)
 obtain ⟨rfl, rfl, rfl, rfl⟩ := hI
 refine g_seq (fun K1 hK1 => ?_)
 refine g_seq (fun K2 hK2 => ?_)
 refine g_region ?_
 refine g_step rfl (s_val (v_move rfl) rfl rfl ?_)
 refine g_step rfl (s_val (v_move rfl) rfl rfl ?_)
 refine g_step rfl (s_val (v_lss rfl rfl) rfl rfl ?_)
 refine g_nil ?_
 refine g_next hK2 ?_
 refine g_cond rfl (fun hc12 => ?_) (fun hc12 => ?_)
 · exfalso; (try simp only [decide_eq_true_eq, decide_eq_false_iff_not, Bool.not_eq_true', Bool.not_eq_false', Bool.not_eq_eq_eq_not, Bool.not_true, Bool.not_false, Bool.and_eq_true, Bool.or_eq_true, Bool.or_eq_false_iff, beq_iff_eq, beq_eq_false_iff_ne, ne_eq, Int.not_lt, Int.not_le, Decidable.not_not] at hc12); exact absurd hc12 (by decide)
 ·
  try simp only [decide_eq_true_eq, decide_eq_false_iff_not, Bool.not_eq_true', Bool.not_eq_false', Bool.not_eq_eq_eq_not, Bool.not_true, Bool.not_false, Bool.and_eq_true, Bool.or_eq_true, Bool.or_eq_false_iff, beq_iff_eq, beq_eq_false_iff_ne, ne_eq, Int.not_lt, Int.not_le, Decidable.not_not] at hc12
  refine g_exit ?_
  refine g_then_exit ?_
  refine g_then_exit ?_
  refine g_block_same ?_
  refine g_end0 (.inr rfl) Try.results110  []  (AHeap.sub_refl _) (fun p hp => by cases hp) ⟨rfl, ?_⟩
  rfl

theorem pdqNil_ok (G : AHeap) : PCalls Try.prog 90 [.nil0, .int .i64 0, .int .i64 0, .int .i64 0] G (fun v => v = .tup []) := by
 refine LCalls.intro 134 fi90 rfl Try.ntmps90 rfl (fun _ h => h.elim) (fun H hH w0 hw0 => ?_)
 refine g_seq (fun K0 hK0 => ?_)
 refine g_region ?_
 refine g_step rfl (s_val (v_assign rfl) rfl rfl ?_)
 refine g_nil ?_
 refine g_next hK0 ?_
 refine g_seq (fun K1 hK1 => ?_)
 refine g_region ?_
 refine g_step rfl (s_val (v_assign rfl) rfl rfl ?_)
 refine g_nil ?_
 refine g_next hK1 ?_
 refine g_block ?_
 first | refine g_keep [0, 1, 2, 3, 8, 9] [] [] (keep_cons rfl (keep_cons rfl (keep_cons rfl (keep_cons rfl (keep_cons rfl (keep_cons rfl keep_nil)))))) lkeep_nil keep_nil rfl ?_ | refine g_keep [0, 1, 2, 3, 8, 9] [] [] rfl rfl rfl rfl ?_
 refine g_loop (fun n env L B G => env = [(0, .nil0), (1, .int .i64 0), (2, .int .i64 0), (3, .int .i64 0), (8, .bool true), (9, .bool true)] ∧ L = [] ∧ B = [] ∧ H = G) 0 ⟨rfl, rfl, rfl, rfl⟩ (fun n env L B G hI => ?_)
 obtain ⟨rfl, rfl, rfl, rfl⟩ := hI
 refine g_block ?_
 refine g_seq (fun K2 hK2 => ?_)
 refine g_region ?_
 refine g_step rfl (s_val (v_move rfl) rfl rfl ?_)
 refine g_step rfl (s_val (v_move rfl) rfl rfl ?_)
 refine g_step rfl (s_val (v_sub_ rfl rfl (by omega)) rfl rfl ?_)
 refine g_step rfl (s_val (v_assign rfl) rfl rfl ?_)
 refine g_nil ?_
 refine g_next hK2 ?_
 refine g_seq (fun K3 hK3 => ?_)
 refine g_seq (fun K4 hK4 => ?_)
 refine g_region ?_
 refine g_step rfl (s_val (v_move rfl) rfl rfl ?_)
 refine g_step rfl (s_val (v_leq rfl rfl) rfl rfl ?_)
 refine g_nil ?_
 refine g_next hK4 ?_
 refine g_cond rfl (fun hc23 => ?_) (fun hc23 => ?_)
 ·
  try simp only [decide_eq_true_eq, decide_eq_false_iff_not, Bool.not_eq_true', Bool.not_eq_false', Bool.not_eq_eq_eq_not, Bool.not_true, Bool.not_false, Bool.and_eq_true, Bool.or_eq_true, Bool.or_eq_false_iff, beq_iff_eq, beq_eq_false_iff_ne, ne_eq, Int.not_lt, Int.not_le, Decidable.not_not] at hc23
  refine g_seq (fun K5 hK5 => ?_)
  refine g_region ?_
  refine g_step rfl (s_val (v_move rfl) rfl rfl ?_)
  refine g_step rfl (s_val (v_move rfl) rfl rfl ?_)
  refine g_step rfl (s_val (v_move rfl) rfl rfl ?_)
  refine g_step rfl (s_callp rfl rfl rfl (insSortNil_ok _) ?_)
  rintro _ rfl
  refine g_nil ?_
  refine g_next hK5 ?_
  refine g_ret ?_
  refine g_then_ret ?_
  refine g_block_ret ?_
  refine g_then_ret ?_
  refine g_block_ret ?_
  refine g_end0 (.inl rfl) Try.results90  []  (AHeap.sub_refl _) (fun p hp => by cases hp) ⟨rfl, ?_⟩
  rfl
 · exfalso; (try simp only [decide_eq_true_eq, decide_eq_false_iff_not, Bool.not_eq_true', Bool.not_eq_false', Bool.not_eq_eq_eq_not, Bool.not_true, Bool.not_false, Bool.and_eq_true, Bool.or_eq_true, Bool.or_eq_false_iff, beq_iff_eq, beq_eq_false_iff_ne, ne_eq, Int.not_lt, Int.not_le, Decidable.not_not] at hc23); exact absurd hc23 (by decide)

theorem sortNil_ok (G : AHeap) : PCalls Try.prog 57 [.nil0] G (fun v => v = .tup []) := by
 refine LCalls.intro 11 fi57 rfl Try.ntmps57 rfl (fun _ h => h.elim) (fun H hH w0 hw0 => ?_)
 refine g_seq (fun K0 hK0 => ?_)
 refine g_region ?_
 refine g_step rfl (s_val (v_move rfl) rfl rfl ?_)
 refine g_step rfl (s_val (v_len ty41 rfl (by first | rfl | assumption) (by first | exact List.length_map .. | rfl)) rfl rfl ?_)
 refine g_step rfl (s_val (v_assign rfl) rfl rfl ?_)
 refine g_nil ?_
 refine g_next hK0 ?_
 refine g_region ?_
 refine g_step rfl (s_val (v_move rfl) rfl rfl ?_)
 refine g_step rfl (s_val (v_move rfl) rfl rfl ?_)
 refine g_step rfl (s_val (v_move rfl) rfl rfl ?_)
 refine g_step rfl (s_val (v_conv_int (m := _) ty3 ty180 rfl rfl) rfl rfl ?_)
 refine g_step rfl (s_callp rfl rfl rfl (lenz_ok _) ?_)
 rintro _ rfl
 refine g_step rfl (s_callp rfl rfl rfl (pdqNil_ok _) ?_)
 rintro _ rfl
 refine g_nil ?_
 refine g_end0 (.inr rfl) Try.results57  []  (AHeap.sub_refl _) (fun p hp => by cases hp) ⟨rfl, ?_⟩
 rfl

theorem ixI_ok (l : List Int) (f : Nat) (caps : List AV) (p : Int → Bool) (G : AHeap) (va : AV) (hva : va.view G = some (l.map (AV.int .i64))) (hl : l.length ≤ 1000000) (hcall : ∀ x ∈ l, ∀ H', G.sub H' → PCalls Try.prog f ([(AV.int .i64) x] ++ caps) H' (fun v => v = .bool (p x))) : PCalls Try.prog 95 [va, .fn (.func f) caps] G (fun v => v = .int .i64 (fidxZ p l)) := by
 refine LCalls.intro 19 fi95 rfl Try.ntmps95 rfl (fun _ h => h.elim) (fun H hH w0 hw0 => ?_)
 have hva := view_sub hH hva
 refine g_seq (fun K0 hK0 => ?_)
 refine g_region ?_
 refine g_step rfl (s_val (v_assign rfl) rfl rfl ?_)
 refine g_nil ?_
 refine g_next hK0 ?_
 refine g_seq (fun K1 hK1 => ?_)
 refine g_seq (fun K2 hK2 => ?_)
 refine g_region ?_
 refine g_step rfl (s_val (v_move rfl) rfl rfl ?_)
 refine g_step rfl (s_val (v_len ty41 rfl (by first | rfl | assumption) (by first | exact List.length_map .. | rfl)) rfl rfl ?_)
 refine g_step rfl (s_val (v_move rfl) rfl rfl ?_)
 refine g_nil ?_
 refine g_next hK2 ?_
 refine g_block ?_
 first | refine g_keep [0, 1, 7, 8] [] [] (keep_cons rfl (keep_cons rfl (keep_cons rfl (keep_cons rfl keep_nil)))) lkeep_nil keep_nil rfl ?_ | refine g_keep [0, 1, 7, 8] [] [] rfl rfl rfl rfl ?_
 refine g_loop (fun n env L B G => ∃ (k : Nat) , k ≤ l.length ∧ n = l.length - k ∧ env = [(0, va), (1, .fn (.func f) caps), (7, .int .i64 (l.length : Int)), (8, .int .i64 (k : Int))] ∧ L = [] ∧ B = [] ∧ H = G ∧ fidx p (l.drop k) + k = fidx p l) (l.length) ⟨0, Nat.zero_le _, rfl, rfl, rfl, rfl, rfl, rfl⟩ (fun n env L B G hI => ?_)
 obtain ⟨k, hk, rfl, rfl, rfl, rfl, rfl, hc⟩ := hI
 refine g_seq (fun K3 hK3 => ?_)
 refine g_region ?_
 refine g_step rfl (s_val (v_lss rfl rfl) rfl rfl ?_)
 refine g_nil ?_
 refine g_next hK3 ?_
 refine g_seq (fun K4 hK4 => ?_)
 refine g_cond rfl (fun hc9 => ?_) (fun hc9 => ?_)
 ·
  try simp only [decide_eq_true_eq, decide_eq_false_iff_not, Bool.not_eq_true', Bool.not_eq_false', Bool.not_eq_eq_eq_not, Bool.not_true, Bool.not_false, Bool.and_eq_true, Bool.or_eq_true, Bool.or_eq_false_iff, beq_iff_eq, beq_eq_false_iff_ne, ne_eq, Int.not_lt, Int.not_le, Decidable.not_not] at hc9
  obtain ⟨x, hx⟩ := get_some (l := l) (k := k) (by omega)
  refine g_skip ?_
  refine g_next hK4 ?_
  refine g_seq (fun K5 hK5 => ?_)
  refine g_block ?_
  refine g_seq (fun K6 hK6 => ?_)
  refine g_region ?_
  refine g_step rfl (s_val (v_move rfl) rfl rfl ?_)
  refine g_step rfl (s_val (v_assign rfl) rfl rfl ?_)
  refine g_nil ?_
  refine g_next hK6 ?_
  refine g_seq (fun K7 hK7 => ?_)
  refine g_region ?_
  refine g_step rfl (s_val (v_move rfl) rfl rfl ?_)
  refine g_step rfl (s_val (v_move rfl) rfl rfl ?_)
  refine g_step rfl (s_val (v_move rfl) rfl rfl ?_)
  refine g_step rfl (s_val (v_indexAddr ty41 ty3 rfl rfl (by first | rfl | assumption) (by first | rfl | exact (rfl : (0 : Int) = ((0 : Nat) : Int)) | exact (Int.toNat_of_nonneg (by omega)).symm) (by first | assumption | exact map_get (by assumption) | rfl) rfl) rfl rfl ?_)
  refine g_step rfl (s_val (by first | exact v_load ty3 rfl rfl (by first | rfl | assumption) (by first | assumption | exact map_get (by assumption) | rfl) rfl | exact v_load_box ty3 rfl rfl (by assumption) rfl) rfl rfl ?_)
  refine g_step rfl (s_callp rfl rfl rfl (hcall x (mem_get hx) _ hH) ?_)
  rintro _ rfl
  refine g_nil ?_
  refine g_next hK7 ?_
  refine g_cond rfl (fun hc16 => ?_) (fun hc16 => ?_)
  ·
   try simp only [decide_eq_true_eq, decide_eq_false_iff_not, Bool.not_eq_true', Bool.not_eq_false', Bool.not_eq_eq_eq_not, Bool.not_true, Bool.not_false, Bool.and_eq_true, Bool.or_eq_true, Bool.or_eq_false_iff, beq_iff_eq, beq_eq_false_iff_ne, ne_eq, Int.not_lt, Int.not_le, Decidable.not_not] at hc16
   refine g_seq (fun K8 hK8 => ?_)
   refine g_region ?_
   refine g_step rfl (s_val (v_move rfl) rfl rfl ?_)
   refine g_step rfl (s_val (v_assign rfl) rfl rfl ?_)
   refine g_nil ?_
   refine g_next hK8 ?_
   refine g_ret ?_
   refine g_block_ret ?_
   refine g_then_ret ?_
   refine g_then_ret ?_
   refine g_block_ret ?_
   refine g_then_ret ?_
   refine g_end1 (.inl rfl) Try.results95 (.tmp rfl) [] (ASub.refl _) (AHeap.sub_refl _) (fun p hp => by cases hp) ⟨rfl, ?_⟩
   first | (rw [fidxZ, fidx_hit hc hx hc16, if_pos (by omega)]; done) | (rw [fidxZ, fidx_hit hc hx hc16, if_pos (by omega)]; rfl)
  ·
   try simp only [decide_eq_true_eq, decide_eq_false_iff_not, Bool.not_eq_true', Bool.not_eq_false', Bool.not_eq_eq_eq_not, Bool.not_true, Bool.not_false, Bool.and_eq_true, Bool.or_eq_true, Bool.or_eq_false_iff, beq_iff_eq, beq_eq_false_iff_ne, ne_eq, Int.not_lt, Int.not_le, Decidable.not_not] at hc16
   refine g_skip ?_
   refine g_block_normal ?_
   refine g_next hK5 ?_
   refine g_region ?_
   refine g_step rfl (s_val (v_add rfl rfl (by omega)) rfl rfl ?_)
   refine g_step rfl (s_val (v_move rfl) rfl rfl ?_)
   refine g_nil ?_
   first | refine g_keep [0, 1, 7, 8] [] [] (keep_cons rfl (keep_cons rfl (keep_cons rfl (keep_cons rfl keep_nil)))) lkeep_nil keep_nil rfl ?_ | refine g_keep [0, 1, 7, 8] [] [] rfl rfl rfl rfl ?_
   exact g_round _ (by omega) ⟨k + 1, by omega, rfl, rfl, rfl, rfl, rfl, fidx_miss hc hx hc16⟩
 ·
  try simp only [decide_eq_true_eq, decide_eq_false_iff_not, Bool.not_eq_true', Bool.not_eq_false', Bool.not_eq_eq_eq_not, Bool.not_true, Bool.not_false, Bool.and_eq_true, Bool.or_eq_true, Bool.or_eq_false_iff, beq_iff_eq, beq_eq_false_iff_ne, ne_eq, Int.not_lt, Int.not_le, Decidable.not_not] at hc9
  obtain rfl : k = l.length := by omega
  refine g_exit ?_
  refine g_then_exit ?_
  refine g_then_exit ?_
  refine g_block_same ?_
  refine g_next hK1 ?_
  refine g_seq (fun K9 hK9 => ?_)
  refine g_region ?_
  refine g_step rfl (s_val (v_assign rfl) rfl rfl ?_)
  refine g_nil ?_
  refine g_next hK9 ?_
  refine g_ret ?_
  refine g_end1 (.inl rfl) Try.results95 (.tmp rfl) [] (ASub.refl _) (AHeap.sub_refl _) (fun p hp => by cases hp) ⟨rfl, ?_⟩
  first | (rw [fidxZ, fidx_end hc, if_neg (by omega)]; done) | (rw [fidxZ, fidx_end hc, if_neg (by omega)]; rfl)

theorem delfI_ok (r : Nat) (l : List Int) (f : Nat) (caps : List AV) (p : Int → Bool) (G : AHeap) (hG : G r = some (.row 1 (l.map (AV.int .i64)))) (hl : l.length ≤ 1000000) (hcall : ∀ x ∈ l, ∀ H', (G.del r).sub H' → PCalls Try.prog f ([(AV.int .i64) x] ++ caps) H' (fun v => v = .bool (p x))) : LCalls Try.prog 61 [.own r 1 0 l.length, .fn (.func f) caps] G (· = r) (fun n v effs => v = .own r 1 0 (l.filter (fun x => !p x)).length ∧ effs = [(r, .row 1 ((l.filter (fun x => !p x)).map (AV.int .i64) ++ List.replicate (l.length - (l.filter (fun x => !p x)).length) (.int .i64 0)))]) := by
 refine LCalls.intro 42 fi61 rfl Try.ntmps61 rfl (fun b hb => by subst hb; rw [hG]; simp) (fun H hH w0 hw0 => ?_)
 have hG1 := hH _ _ hG
 refine g_seq (fun K0 hK0 => ?_)
 refine g_region ?_
 refine g_step rfl (s_val (v_assign rfl) rfl rfl ?_)
 refine g_nil ?_
 refine g_next hK0 ?_
 refine g_seq (fun K1 hK1 => ?_)
 refine g_region ?_
 refine g_step rfl (s_val (v_move rfl) rfl rfl ?_)
 refine g_step rfl (s_val (v_move rfl) rfl rfl ?_)
 refine g_step rfl (s_callp rfl rfl rfl (ixI_ok l f caps p _ _ (AV.view_own_all hG1 (by simp)) hl (fun x hx H' h' => hcall x hx H' (AHeap.sub_trans (AHeap.del_sub _ _) (AHeap.sub_trans hH h')))) ?_)
 rintro _ rfl
 refine g_step rfl (s_val (v_assign rfl) rfl rfl ?_)
 refine g_nil ?_
 refine g_next hK1 ?_
 refine g_seq (fun K2 hK2 => ?_)
 refine g_seq (fun K3 hK3 => ?_)
 refine g_region ?_
 refine g_step rfl (s_val (v_move rfl) rfl rfl ?_)
 refine g_step rfl (s_val (v_eql rfl rfl) rfl rfl ?_)
 refine g_nil ?_
 refine g_next hK3 ?_
 refine g_cond rfl (fun hc12 => ?_) (fun hc12 => ?_)
 ·
  try simp only [decide_eq_true_eq, decide_eq_false_iff_not, Bool.not_eq_true', Bool.not_eq_false', Bool.not_eq_eq_eq_not, Bool.not_true, Bool.not_false, Bool.and_eq_true, Bool.or_eq_true, Bool.or_eq_false_iff, beq_iff_eq, beq_eq_false_iff_ne, ne_eq, Int.not_lt, Int.not_le, Decidable.not_not] at hc12
  have hno : fidx p l = l.length := by have := fidx_le p l; unfold fidxZ at hc12; split at hc12 <;> omega
  have hfl := fidx_none p l hno
  refine g_seq (fun K4 hK4 => ?_)
  refine g_region ?_
  refine g_step rfl (s_val (v_move rfl) rfl rfl ?_)
  refine g_step rfl (s_val (v_assign rfl) rfl rfl ?_)
  refine g_nil ?_
  refine g_next hK4 ?_
  refine g_ret ?_
  refine g_then_ret ?_
  refine g_end1 (.inl rfl) Try.results61 (.tmp rfl) [(r, .row 1 ((l.filter (fun x => !p x)).map (AV.int .i64) ++ List.replicate (l.length - (l.filter (fun x => !p x)).length) (.int .i64 0)))] (ASub.refl _) (by rw [hfl, Nat.sub_self, List.replicate_zero, List.append_nil]; show AHeap.sub (H.set r _) H; rw [AHeap.set_same _ _ _ hG1]; exact AHeap.sub_refl _) (fun q' hq' => .inl (by simp at hq'; subst hq'; rw [hG]; simp)) ⟨by rw [hfl], rfl⟩
 ·
  try simp only [decide_eq_true_eq, decide_eq_false_iff_not, Bool.not_eq_true', Bool.not_eq_false', Bool.not_eq_eq_eq_not, Bool.not_true, Bool.not_false, Bool.and_eq_true, Bool.or_eq_true, Bool.or_eq_false_iff, beq_iff_eq, beq_eq_false_iff_ne, ne_eq, Int.not_lt, Int.not_le, Decidable.not_not] at hc12
  have hlt : fidx p l < l.length := by unfold fidxZ at hc12; split at hc12 <;> omega
  have hz : fidxZ p l = (fidx p l : Int) := if_pos hlt
  simp only [hz]
  refine g_skip ?_
  refine g_next hK2 ?_
  refine g_seq (fun K5 hK5 => ?_)
  refine g_seq (fun K6 hK6 => ?_)
  refine g_region ?_
  refine g_step rfl (s_val (v_move rfl) rfl rfl ?_)
  refine g_step rfl (s_val (v_add rfl rfl (by omega)) rfl rfl ?_)
  refine g_step rfl (s_val (v_assign rfl) rfl rfl ?_)
  refine g_nil ?_
  refine g_next hK6 ?_
  refine g_block ?_
  first | refine g_keep [0, 1, 5, 6] [] [] (keep_cons rfl (keep_cons rfl (keep_cons rfl (keep_cons rfl keep_nil)))) lkeep_nil keep_nil rfl ?_ | refine g_keep [0, 1, 5, 6] [] [] rfl rfl rfl rfl ?_
  refine g_loop (fun n env L B G => ∃ (j : Nat) (i : Nat) (R : List Int), j ≤ l.length ∧ n = l.length - j ∧ env = [(0, .own r 1 0 l.length), (1, .fn (.func f) caps), (5, .int .i64 (i : Int)), (6, .int .i64 (j : Int))] ∧ L = [] ∧ B = [] ∧ G = H.set r (.row 1 (R.map (AV.int .i64))) ∧ R.length = l.length ∧ i < j ∧ R.take i = (l.take j).filter (fun x => !p x) ∧ R.drop j = l.drop j) (l.length - (fidx p l + 1)) ⟨(fidx p l + 1), fidx p l, l, (by omega), rfl, rfl, rfl, rfl, (AHeap.set_same _ _ _ hG1).symm, ⟨rfl, by omega, (fidx_keep p l).symm, rfl⟩⟩ (fun n env L B G hI => ?_)
  obtain ⟨j, i, R, hj, rfl, rfl, rfl, rfl, rfl, hRl, hij, hRt, hRd⟩ := hI
  refine g_seq (fun K7 hK7 => ?_)
  refine g_seq (fun K8 hK8 => ?_)
  refine g_region ?_
  refine g_step rfl (s_val (v_move rfl) rfl rfl ?_)
  refine g_step rfl (s_val (v_move rfl) rfl rfl ?_)
  refine g_step rfl (s_val (v_len ty41 rfl (AV.view_own_all (AHeap.get_set _ _ _) (by rw [List.length_map, hRl])) (by rw [List.length_map, hRl])) rfl rfl ?_)
  refine g_step rfl (s_val (v_lss rfl rfl) rfl rfl ?_)
  refine g_nil ?_
  refine g_next hK8 ?_
  refine g_cond rfl (fun hc19 => ?_) (fun hc19 => ?_)
  ·
   try simp only [decide_eq_true_eq, decide_eq_false_iff_not, Bool.not_eq_true', Bool.not_eq_false', Bool.not_eq_eq_eq_not, Bool.not_true, Bool.not_false, Bool.and_eq_true, Bool.or_eq_true, Bool.or_eq_false_iff, beq_iff_eq, beq_eq_false_iff_ne, ne_eq, Int.not_lt, Int.not_le, Decidable.not_not] at hc19
   obtain ⟨x, hx⟩ := get_some (l := l) (k := j) (by omega)
   have hRx : R[j]? = some x := (get_of_drop hRd).trans hx
   obtain ⟨y, hy⟩ := get_some (l := R) (k := i) (by omega)
   have hvR : (AV.own r 1 0 l.length).view (AHeap.set H r (.row 1 (R.map (AV.int .i64)))) = some (R.map (AV.int .i64)) := AV.view_own_all (AHeap.get_set _ _ _) (by rw [List.length_map, hRl])
   refine g_skip ?_
   refine g_next hK7 ?_
   refine g_seq (fun K9 hK9 => ?_)
   refine g_block ?_
   refine g_seq (fun K10 hK10 => ?_)
   refine g_region ?_
   refine g_step rfl (s_val (v_move rfl) rfl rfl ?_)
   refine g_step rfl (s_val (v_move rfl) rfl rfl ?_)
   refine g_step rfl (s_val (v_indexAddr ty41 ty3 rfl rfl hvR (by first | rfl | exact (rfl : (0 : Int) = ((0 : Nat) : Int)) | exact (Int.toNat_of_nonneg (by omega)).symm) (map_get hRx) rfl) rfl rfl ?_)
   refine g_step rfl (s_val (by first | exact v_load ty3 rfl rfl hvR (map_get hRx) rfl | exact v_load_box ty3 rfl rfl (by assumption) rfl) rfl rfl ?_)
   refine g_step rfl (s_val (v_assign rfl) rfl rfl ?_)
   refine g_nil ?_
   refine g_next hK10 ?_
   refine g_seq (fun K11 hK11 => ?_)
   refine g_region ?_
   refine g_step rfl (s_val (v_move rfl) rfl rfl ?_)
   refine g_step rfl (s_val (v_move rfl) rfl rfl ?_)
   refine g_step rfl (s_callp rfl rfl rfl (hcall x (mem_get hx) _ (fun b y hb => by by_cases e : b = r <;> simp [AHeap.del, AHeap.set, e] at hb ⊢; exact hH _ _ hb)) ?_)
   rintro _ rfl
   refine g_step rfl (s_val (v_not rfl) rfl rfl ?_)
   refine g_nil ?_
   refine g_next hK11 ?_
   refine g_cond rfl (fun hc29 => ?_) (fun hc29 => ?_)
   ·
    try simp only [decide_eq_true_eq, decide_eq_false_iff_not, Bool.not_eq_true', Bool.not_eq_false', Bool.not_eq_eq_eq_not, Bool.not_true, Bool.not_false, Bool.and_eq_true, Bool.or_eq_true, Bool.or_eq_false_iff, beq_iff_eq, beq_eq_false_iff_ne, ne_eq, Int.not_lt, Int.not_le, Decidable.not_not] at hc29
    refine g_seq (fun K12 hK12 => ?_)
    refine g_region ?_
    refine g_step rfl (s_val (v_move rfl) rfl rfl ?_)
    refine g_step rfl (s_val (v_move rfl) rfl rfl ?_)
    refine g_step rfl (s_val (v_move rfl) rfl rfl ?_)
    refine g_step rfl (s_val (v_indexAddr ty41 ty3 rfl rfl hvR (by first | rfl | exact (rfl : (0 : Int) = ((0 : Nat) : Int)) | exact (Int.toNat_of_nonneg (by omega)).symm) (map_get hy) rfl) rfl rfl ?_)
    refine g_step rfl (s_store_row (k := i) (off := 0) (old := (AV.int .i64) y) (new := (AV.int .i64) x) ty3 rfl rfl (AHeap.get_set _ _ _) (by rw [Nat.zero_add]; exact map_get hy) rfl rfl rfl rfl (.inl rfl) ?_)
    rw [AHeap.set_set, Nat.zero_add, ← List.map_set]
    refine g_nil ?_
    refine g_next hK12 ?_
    refine g_region ?_
    refine g_step rfl (s_val (v_move rfl) rfl rfl ?_)
    refine g_step rfl (s_val (v_add rfl rfl (by omega)) rfl rfl ?_)
    refine g_step rfl (s_val (v_assign rfl) rfl rfl ?_)
    refine g_nil ?_
    refine g_block_normal ?_
    refine g_next hK9 ?_
    refine g_region ?_
    refine g_step rfl (s_val (v_move rfl) rfl rfl ?_)
    refine g_step rfl (s_val (v_add rfl rfl (by omega)) rfl rfl ?_)
    refine g_step rfl (s_val (v_assign rfl) rfl rfl ?_)
    refine g_nil ?_
    first | refine g_keep [0, 1, 5, 6] [] [] (keep_cons rfl (keep_cons rfl (keep_cons rfl (keep_cons rfl keep_nil)))) lkeep_nil keep_nil rfl ?_ | refine g_keep [0, 1, 5, 6] [] [] rfl rfl rfl rfl ?_
    first | exact g_round _ (by omega) ⟨j + 1, i + 1, R.set i x, by omega, rfl, rfl, rfl, rfl, rfl, by have h4 := keep_step (x := x) hRl hij (by omega) hRt hRd; rw [filter_snoc hx, if_pos (by simpa using hc29)]; exact h4⟩ | exact g_round _ (by omega) ⟨j + 1, i, R, by omega, rfl, rfl, rfl, rfl, rfl, ⟨hRl, by omega, by rw [filter_snoc hx, if_neg (by simpa using hc29), List.append_nil]; exact hRt, keep_skip hRd⟩⟩
   ·
    try simp only [decide_eq_true_eq, decide_eq_false_iff_not, Bool.not_eq_true', Bool.not_eq_false', Bool.not_eq_eq_eq_not, Bool.not_true, Bool.not_false, Bool.and_eq_true, Bool.or_eq_true, Bool.or_eq_false_iff, beq_iff_eq, beq_eq_false_iff_ne, ne_eq, Int.not_lt, Int.not_le, Decidable.not_not] at hc29
    refine g_skip ?_
    refine g_block_normal ?_
    refine g_next hK9 ?_
    refine g_region ?_
    refine g_step rfl (s_val (v_move rfl) rfl rfl ?_)
    refine g_step rfl (s_val (v_add rfl rfl (by omega)) rfl rfl ?_)
    refine g_step rfl (s_val (v_assign rfl) rfl rfl ?_)
    refine g_nil ?_
    first | refine g_keep [0, 1, 5, 6] [] [] (keep_cons rfl (keep_cons rfl (keep_cons rfl (keep_cons rfl keep_nil)))) lkeep_nil keep_nil rfl ?_ | refine g_keep [0, 1, 5, 6] [] [] rfl rfl rfl rfl ?_
    first | exact g_round _ (by omega) ⟨j + 1, i + 1, R.set i x, by omega, rfl, rfl, rfl, rfl, rfl, by have h4 := keep_step (x := x) hRl hij (by omega) hRt hRd; rw [filter_snoc hx, if_pos (by simpa using hc29)]; exact h4⟩ | exact g_round _ (by omega) ⟨j + 1, i, R, by omega, rfl, rfl, rfl, rfl, rfl, ⟨hRl, by omega, by rw [filter_snoc hx, if_neg (by simpa using hc29), List.append_nil]; exact hRt, keep_skip hRd⟩⟩
  ·
   try simp only [decide_eq_true_eq, decide_eq_false_iff_not, Bool.not_eq_true', Bool.not_eq_false', Bool.not_eq_eq_eq_not, Bool.not_true, Bool.not_false, Bool.and_eq_true, Bool.or_eq_true, Bool.or_eq_false_iff, beq_iff_eq, beq_eq_false_iff_ne, ne_eq, Int.not_lt, Int.not_le, Decidable.not_not] at hc19
   obtain rfl : j = l.length := by omega
   rw [List.take_length] at hRt
   have hil : i = (l.filter (fun x => !p x)).length := by rw [← hRt, List.length_take]; omega
   refine g_exit ?_
   refine g_then_exit ?_
   refine g_then_exit ?_
   refine g_block_same ?_
   refine g_next hK5 ?_
   refine g_seq (fun K13 hK13 => ?_)
   refine g_region ?_
   refine g_step rfl (s_val (v_move rfl) rfl rfl ?_)
   refine g_step rfl (s_val (v_move rfl) rfl rfl ?_)
   refine g_step rfl (s_val (v_slice_own (lo := i) (hi := l.length) ty41 ty3 rfl rfl rfl rfl rfl (by omega) (by omega) (.inr hij)) rfl rfl ?_)
   refine g_step rfl (s_clear (o := 0 + i) (n := l.length - i) (l := R.map (AV.int .i64)) (l' := ((l.filter (fun x => !p x)).map (AV.int .i64) ++ List.replicate (l.length - (l.filter (fun x => !p x)).length) (.int .i64 0))) (za := (.int .i64 0)) ty41 ty3 rfl (AHeap.get_set _ _ _) (by simp; omega) rfl rfl rfl rfl (.inl rfl) (by simp only [Nat.zero_add]; rw [← List.map_take, hRt, drop_none (a := R.map (AV.int .i64)) (n := i + (l.length - i)) (by rw [List.length_map]; omega), List.append_nil, hil]) ?_)
   rw [AHeap.set_set]
   refine g_nil ?_
   refine g_next hK13 ?_
   refine g_seq (fun K14 hK14 => ?_)
   refine g_region ?_
   refine g_step rfl (s_val (v_move rfl) rfl rfl ?_)
   refine g_step rfl (s_val (v_move rfl) rfl rfl ?_)
   refine g_step rfl (s_val (v_slice_own (lo := 0) (hi := i) ty41 ty3 rfl rfl rfl rfl rfl (by omega) (by omega) (.inl rfl)) rfl rfl ?_)
   refine g_step rfl (s_val (v_assign rfl) rfl rfl ?_)
   refine g_nil ?_
   refine g_next hK14 ?_
   refine g_ret ?_
   refine g_end1 (.inl rfl) Try.results61 (.tmp rfl) [(r, .row 1 ((l.filter (fun x => !p x)).map (AV.int .i64) ++ List.replicate (l.length - (l.filter (fun x => !p x)).length) (.int .i64 0)))] (ASub.refl _) (AHeap.sub_refl _) (fun q' hq' => .inl (by simp at hq'; subst hq'; rw [hG]; simp)) ⟨by rw [hil]; rfl, rfl⟩

theorem delfINil_ok (f : Nat) (caps : List AV) (G : AHeap) : PCalls Try.prog 61 [.nil0, .fn (.func f) caps] G (fun v => v = .nil0) := by
 refine LCalls.intro 42 fi61 rfl Try.ntmps61 rfl (fun _ h => h.elim) (fun H hH w0 hw0 => ?_)
 refine g_seq (fun K0 hK0 => ?_)
 refine g_region ?_
 refine g_step rfl (s_val (v_assign rfl) rfl rfl ?_)
 refine g_nil ?_
 refine g_next hK0 ?_
 refine g_seq (fun K1 hK1 => ?_)
 refine g_region ?_
 refine g_step rfl (s_val (v_move rfl) rfl rfl ?_)
 refine g_step rfl (s_val (v_move rfl) rfl rfl ?_)
 refine g_step rfl (s_callp rfl rfl rfl (ixI_ok [] f caps (fun _ => false) _ _ rfl (by simp) (fun x hx => by cases hx)) ?_)
 rintro _ rfl
 refine g_step rfl (s_val (v_assign rfl) rfl rfl ?_)
 refine g_nil ?_
 refine g_next hK1 ?_
 refine g_seq (fun K2 hK2 => ?_)
 refine g_seq (fun K3 hK3 => ?_)
 refine g_region ?_
 refine g_step rfl (s_val (v_move rfl) rfl rfl ?_)
 refine g_step rfl (s_val (v_eql rfl rfl) rfl rfl ?_)
 refine g_nil ?_
 refine g_next hK3 ?_
 refine g_cond rfl (fun hc12 => ?_) (fun hc12 => ?_)
 ·
  try simp only [decide_eq_true_eq, decide_eq_false_iff_not, Bool.not_eq_true', Bool.not_eq_false', Bool.not_eq_eq_eq_not, Bool.not_true, Bool.not_false, Bool.and_eq_true, Bool.or_eq_true, Bool.or_eq_false_iff, beq_iff_eq, beq_eq_false_iff_ne, ne_eq, Int.not_lt, Int.not_le, Decidable.not_not] at hc12
  refine g_seq (fun K4 hK4 => ?_)
  refine g_region ?_
  refine g_step rfl (s_val (v_move rfl) rfl rfl ?_)
  refine g_step rfl (s_val (v_assign rfl) rfl rfl ?_)
  refine g_nil ?_
  refine g_next hK4 ?_
  refine g_ret ?_
  refine g_then_ret ?_
  refine g_end1 (.inl rfl) Try.results61 (.tmp rfl) [] (ASub.refl _) (AHeap.sub_refl _) (fun p hp => by cases hp) ⟨rfl, ?_⟩
  rfl
 · exfalso; (try simp only [decide_eq_true_eq, decide_eq_false_iff_not, Bool.not_eq_true', Bool.not_eq_false', Bool.not_eq_eq_eq_not, Bool.not_true, Bool.not_false, Bool.and_eq_true, Bool.or_eq_true, Bool.or_eq_false_iff, beq_iff_eq, beq_eq_false_iff_ne, ne_eq, Int.not_lt, Int.not_le, Decidable.not_not] at hc12); exact hc12 rfl

theorem insI_ok (r q i : Nat) (l m : List Int) (zi : Int) (G : AHeap) (hzi : zi = (i : Int)) (hG : G r = some (.row 1 (l.map (AV.int .i64)))) (hq : G q = some (.row 1 (m.map (AV.int .i64)))) (hne : q ≠ r) (hi : i ≤ l.length) (hm : 0 < m.length) (hb : l.length + m.length ≤ 1000000) : LCalls Try.prog 63 [.own r 1 0 l.length, .int .i64 zi, .own q 1 0 m.length] G (· = r) (fun n v effs => ∃ p, (p = r ∨ n ≤ p) ∧ v = .own p 1 0 (l.length + m.length) ∧ effs = [(p, .row 1 ((l.take i ++ m ++ l.drop i).map (AV.int .i64)))]) := by
 refine LCalls.intro 95 fi63 rfl Try.ntmps63 rfl (fun b hb => by subst hb; rw [hG]; simp) (fun H hH w0 hw0 => ?_)
 have hG1 := hH _ _ hG
 have hq1 := hH _ _ hq
 refine g_seq (fun K0 hK0 => ?_)
 refine g_region ?_
 refine g_step rfl (s_val (v_assign rfl) rfl rfl ?_)
 refine g_nil ?_
 refine g_next hK0 ?_
 refine g_seq (fun K1 hK1 => ?_)
 refine g_region ?_
 rcases Nat.lt_or_ge i l.length with hil | hil
 ·
  refine g_step rfl (s_val (v_move rfl) rfl rfl ?_)
  refine g_step rfl (s_val (v_move rfl) rfl rfl ?_)
  refine g_step rfl (s_val (v_slice_own (lo := i) (hi := l.length) ty41 ty3 rfl rfl rfl hzi rfl (by omega) (by omega) (.inr hil)) rfl rfl ?_)
  refine g_nil ?_
  refine g_next hK1 ?_
  refine g_seq (fun K2 hK2 => ?_)
  refine g_region ?_
  refine g_step rfl (s_val (v_move rfl) rfl rfl ?_)
  refine g_step rfl (s_val (v_len ty41 rfl (by rw [AV.view_own_all (by first | exact hq1 | (rw [AHeap.get_set_ne _ _ hne]; exact hq1) | (rw [AHeap.get_set_ne _ _ hqp]; exact hq1)) (by simp)]) (by simp; rfl)) rfl rfl ?_)
  refine g_step rfl (s_val (v_assign rfl) rfl rfl ?_)
  refine g_nil ?_
  refine g_next hK2 ?_
  refine g_seq (fun K3 hK3 => ?_)
  refine g_seq (fun K4 hK4 => ?_)
  refine g_region ?_
  refine g_step rfl (s_val (v_move rfl) rfl rfl ?_)
  refine g_step rfl (s_val (v_eql rfl rfl) rfl rfl ?_)
  refine g_nil ?_
  refine g_next hK4 ?_
  refine g_cond rfl (fun hc16 => ?_) (fun hc16 => ?_)
  · exfalso; (try simp only [decide_eq_true_eq, decide_eq_false_iff_not, Bool.not_eq_true', Bool.not_eq_false', Bool.not_eq_eq_eq_not, Bool.not_true, Bool.not_false, Bool.and_eq_true, Bool.or_eq_true, Bool.or_eq_false_iff, beq_iff_eq, beq_eq_false_iff_ne, ne_eq, Int.not_lt, Int.not_le, Decidable.not_not] at hc16); omega
  ·
   try simp only [decide_eq_true_eq, decide_eq_false_iff_not, Bool.not_eq_true', Bool.not_eq_false', Bool.not_eq_eq_eq_not, Bool.not_true, Bool.not_false, Bool.and_eq_true, Bool.or_eq_true, Bool.or_eq_false_iff, beq_iff_eq, beq_eq_false_iff_ne, ne_eq, Int.not_lt, Int.not_le, Decidable.not_not] at hc16
   refine g_skip ?_
   refine g_next hK3 ?_
   refine g_seq (fun K5 hK5 => ?_)
   refine g_region ?_
   refine g_step rfl (s_val (v_move rfl) rfl rfl ?_)
   refine g_step rfl (s_val (v_len ty41 rfl (AV.view_own_all hG1 (by simp)) (by simp; rfl)) rfl rfl ?_)
   refine g_step rfl (s_val (v_assign rfl) rfl rfl ?_)
   refine g_nil ?_
   refine g_next hK5 ?_
   refine g_seq (fun K6 hK6 => ?_)
   refine g_seq (fun K7 hK7 => ?_)
   refine g_region ?_
   refine g_step rfl (s_val (v_move rfl) rfl rfl ?_)
   refine g_step rfl (s_val (v_move rfl) rfl rfl ?_)
   refine g_step rfl (s_val (v_eql rfl rfl) rfl rfl ?_)
   refine g_nil ?_
   refine g_next hK7 ?_
   refine g_cond rfl (fun hc22 => ?_) (fun hc22 => ?_)
   · exfalso; (try simp only [decide_eq_true_eq, decide_eq_false_iff_not, Bool.not_eq_true', Bool.not_eq_false', Bool.not_eq_eq_eq_not, Bool.not_true, Bool.not_false, Bool.and_eq_true, Bool.or_eq_true, Bool.or_eq_false_iff, beq_iff_eq, beq_eq_false_iff_ne, ne_eq, Int.not_lt, Int.not_le, Decidable.not_not] at hc22); omega
   ·
    try simp only [decide_eq_true_eq, decide_eq_false_iff_not, Bool.not_eq_true', Bool.not_eq_false', Bool.not_eq_eq_eq_not, Bool.not_true, Bool.not_false, Bool.and_eq_true, Bool.or_eq_true, Bool.or_eq_false_iff, beq_iff_eq, beq_eq_false_iff_ne, ne_eq, Int.not_lt, Int.not_le, Decidable.not_not] at hc22
    refine g_skip ?_
    refine g_next hK6 ?_
    refine g_seq (fun K8 hK8 => ?_)
    refine g_seq (fun K9 hK9 => ?_)
    refine g_region ?_
    refine g_cap 0 rfl (fun cp hcp => ?_)
    refine g_step rfl (s_val (v_move rfl) rfl rfl ?_)
    refine g_step rfl (s_val (v_move rfl) rfl rfl ?_)
    refine g_step rfl (s_val (v_add rfl rfl (by omega)) rfl rfl ?_)
    refine g_step rfl (s_val (v_move rfl) rfl rfl ?_)
    refine g_step rfl (s_val (v_cap ty41 rfl) rfl rfl ?_)
    refine g_step rfl (s_val (v_gtr rfl rfl) rfl rfl ?_)
    refine g_nil ?_
    refine g_next hK9 ?_
    refine g_cond rfl (fun hc31 => ?_) (fun hc31 => ?_)
    ·
     try simp only [decide_eq_true_eq, decide_eq_false_iff_not, Bool.not_eq_true', Bool.not_eq_false', Bool.not_eq_eq_eq_not, Bool.not_true, Bool.not_false, Bool.and_eq_true, Bool.or_eq_true, Bool.or_eq_false_iff, beq_iff_eq, beq_eq_false_iff_ne, ne_eq, Int.not_lt, Int.not_le, Decidable.not_not] at hc31
     refine g_seq (fun K10 hK10 => ?_)
     refine g_region ?_
     refine g_step rfl (s_val (v_move rfl) rfl rfl ?_)
     refine g_step rfl (s_val (v_move rfl) rfl rfl ?_)
     refine g_step rfl (s_val (v_slice_ownc (lo := 0) (hi := i) ty41 ty3 rfl rfl rfl rfl hzi (by omega) (by omega) (.inl rfl)) rfl rfl ?_)
     refine g_step rfl (s_val (v_move rfl) rfl rfl ?_)
     refine g_step rfl (s_val (v_move rfl) rfl rfl ?_)
     refine g_step rfl (s_val (v_add rfl rfl (by omega)) rfl rfl ?_)
     refine g_step rfl (s_val (v_move rfl) rfl rfl ?_)
     refine g_step rfl (s_val (v_sub_ rfl rfl (by omega)) rfl rfl ?_)
     refine g_step rfl (s_append_zeros (l := (l.map (AV.int .i64))) (k := l.length + m.length - i) (za := (.int .i64 0)) (l' := ((l.take i).map (AV.int .i64) ++ List.replicate (l.length + m.length - i) (.int .i64 0))) ty41 ty3 ty3 rfl rfl hG1 (by simp; omega) (by omega) rfl (by omega) rfl rfl rfl rfl (by omega) (by omega) (by simp [List.map_take]) ?_)
     intro p hp1 hp2
     have hqp : q ≠ p := fun e => by subst e; rw [hq1] at hp1; cases hp1
     have hrp : r ≠ p := fun e => by subst e; rw [hG1] at hp1; cases hp1
     refine g_step rfl (s_val (v_assign rfl) rfl rfl ?_)
     refine g_nil ?_
     refine g_next hK10 ?_
     first | refine g_keep [0, 1, 2, 7, 9] [] [] (keep_cons rfl (keep_cons rfl (keep_cons rfl (keep_cons rfl (keep_cons rfl keep_nil))))) lkeep_nil keep_nil rfl ?_ | refine g_keep [0, 1, 2, 7, 9] [] [] rfl rfl rfl rfl ?_
     refine g_seq (fun K11 hK11 => ?_)
     refine g_region ?_
     refine g_step rfl (s_val (v_move rfl) rfl rfl ?_)
     refine g_step rfl (s_val (v_move rfl) rfl rfl ?_)
     refine g_step rfl (s_val (v_slice_own (lo := i) (hi := (l.length + m.length)) ty41 ty3 rfl rfl rfl hzi (by simp; omega) (by omega) (by simp; omega) (.inr (by simp; omega))) rfl rfl ?_)
     refine g_step rfl (s_val (v_move rfl) rfl rfl ?_)
     refine g_step rfl (s_copy (l := ((l.take i).map (AV.int .i64) ++ List.replicate (l.length + m.length - i) (.int .i64 0))) (m := (m.map (AV.int .i64))) (l' := ((l.take i).map (AV.int .i64) ++ m.map (AV.int .i64) ++ List.replicate (l.length - i) (.int .i64 0))) (k := m.length) ty41 ty3 rfl rfl (AHeap.get_set _ _ _) (by simp; omega) rfl (by rw [AV.view_own_all (by first | exact hq1 | (rw [AHeap.get_set_ne _ _ hne]; exact hq1) | (rw [AHeap.get_set_ne _ _ hqp]; exact hq1)) (by simp)]) (by refine Even.map _ ?_ _; intro _; rfl) (by intro x hx; obtain ⟨_, _, rfl⟩ := List.mem_map.1 hx; rfl) (.inr hp2) (by simp; omega) (by simp only [Nat.zero_add]; exact ins_a (AV.int .i64) l m (.int .i64 0) i hi) ?_)
     rw [AHeap.set_set]
     refine g_nil ?_
     refine g_next hK11 ?_
     refine g_seq (fun K12 hK12 => ?_)
     refine g_draw (n := 9) (fun j => !([8] : List Nat).contains j) rfl rfl ?_
     refine m_take 0 false rfl rfl (by kernel_rfl) (by kernel_rfl) (by kernel_rfl) (fun _ _ _ _ h => h) (v_move rfl) rfl rfl ?_
     refine m_take 1 false rfl rfl (by kernel_rfl) (by kernel_rfl) (by kernel_rfl) (fun _ _ _ _ h => h) (v_move rfl) rfl rfl ?_
     refine m_take 2 false rfl rfl (by kernel_rfl) (by kernel_rfl) (by kernel_rfl) (fun _ _ _ _ h => h) (v_move rfl) rfl rfl ?_
     refine m_take 3 false rfl rfl (by kernel_rfl) (by kernel_rfl) (by kernel_rfl) (fun _ _ _ _ h => h) (v_add rfl rfl (by omega)) rfl rfl ?_
     refine m_take 4 false rfl rfl (by kernel_rfl) (by kernel_rfl) (by kernel_rfl) (fun _ _ _ _ h => h) (v_slice_own (lo := (i + m.length)) (hi := (l.length + m.length)) ty41 ty3 rfl rfl rfl (by omega) (by simp; omega) (by omega) (by simp; omega) (.inr (by simp; omega))) rfl rfl ?_
     refine m_take 5 false rfl rfl (by kernel_rfl) (by kernel_rfl) (by kernel_rfl) (fun _ _ _ _ h => h) (v_move rfl) rfl rfl ?_
     refine m_take 6 false rfl rfl (by kernel_rfl) (by kernel_rfl) (by kernel_rfl) (fun _ _ _ _ h => h) (v_move rfl) rfl rfl ?_
     refine m_take 7 false rfl rfl (by kernel_rfl) (by kernel_rfl) (by kernel_rfl) (fun _ _ _ _ h => h) (v_slice_ownc' (lo := i) (hi := l.length) ty41 ty3 rfl rfl rfl hzi rfl (by omega) (by omega) (.inr (by omega))) rfl rfl ?_
     refine m_one 8 (by kernel_rfl) rfl rfl ?_
     refine sm_any rfl (s_copy (l := ((l.take i).map (AV.int .i64) ++ m.map (AV.int .i64) ++ List.replicate (l.length - i) (.int .i64 0))) (m := ((l.drop i).map (AV.int .i64))) (l' := ((l.take i ++ m ++ l.drop i).map (AV.int .i64))) (k := (l.length - i)) ty41 ty3 rfl rfl (AHeap.get_set _ _ _) (by simp; omega) rfl (by rw [AV.view_own (by rw [AHeap.get_set_ne _ _ hrp]; exact hG1) (by simp; omega)]; congr 1; rw [Nat.zero_add, List.map_drop, List.take_of_length_le (by simp)]) (by refine Even.map _ ?_ _; intro _; rfl) (by intro x hx; obtain ⟨_, _, rfl⟩ := List.mem_map.1 hx; rfl) (.inr hp2) (by simp; omega) (by simp only [Nat.zero_add]; exact ins_b (AV.int .i64) l m (.int .i64 0) i hi) ?_)
     rw [AHeap.set_set]
     refine m_done (by kernel_rfl) ?_
     refine g_next hK12 ?_
     refine g_seq (fun K13 hK13 => ?_)
     refine g_region ?_
     refine g_step rfl (s_val (v_move rfl) rfl rfl ?_)
     refine g_step rfl (s_val (v_assign rfl) rfl rfl ?_)
     refine g_nil ?_
     refine g_next hK13 ?_
     refine g_ret ?_
     refine g_then_ret ?_
     refine g_end1 (.inl rfl) Try.results63 (.tmp rfl) [(p, .row 1 ((l.take i ++ m ++ l.drop i).map (AV.int .i64)))] (by first | exact ASub.ownc _ _ _ _ _ | (refine cast ?_ (ASub.refl (.own r 1 0 (l.length + m.length))); congr 2; simp <;> omega) | (refine cast ?_ (ASub.refl (.own p 1 0 (l.length + m.length))); congr 1; congr 1; simp <;> omega)) (AHeap.sub_refl _) (fun q' hq' => .inr (by simp at hq'; subst hq'; exact hp2)) ⟨p, .inr hp2, rfl, rfl⟩
    ·
     try simp only [decide_eq_true_eq, decide_eq_false_iff_not, Bool.not_eq_true', Bool.not_eq_false', Bool.not_eq_eq_eq_not, Bool.not_true, Bool.not_false, Bool.and_eq_true, Bool.or_eq_true, Bool.or_eq_false_iff, beq_iff_eq, beq_eq_false_iff_ne, ne_eq, Int.not_lt, Int.not_le, Decidable.not_not] at hc31
     refine g_skip ?_
     refine g_next hK8 ?_
     refine g_seq (fun K14 hK14 => ?_)
     refine g_region ?_
     refine g_room 0 m.length rfl hG1 (by simp) (by omega) ?_
     refine g_step rfl (s_val (v_move rfl) rfl rfl ?_)
     refine g_step rfl (s_val (v_move rfl) rfl rfl ?_)
     refine g_step rfl (s_val (v_move rfl) rfl rfl ?_)
     refine g_step rfl (s_val (v_add rfl rfl (by omega)) rfl rfl ?_)
     refine g_step rfl (s_val (v_slice_ownc (lo := 0) (hi := l.length + m.length) ty41 ty3 rfl rfl rfl rfl (by omega) (by omega) (by omega) (.inl rfl)) rfl rfl ?_)
     refine g_step rfl (s_val (v_assign rfl) rfl rfl ?_)
     refine g_nil ?_
     refine g_next hK14 ?_
     first | refine g_keep [0, 1, 2, 7, 8] [] [] (keep_cons rfl (keep_cons rfl (keep_cons rfl (keep_cons rfl (keep_cons rfl keep_nil))))) lkeep_nil keep_nil rfl ?_ | refine g_keep [0, 1, 2, 7, 8] [] [] rfl rfl rfl rfl ?_
     refine g_seq (fun K15 hK15 => ?_)
     refine g_seq (fun K16 hK16 => ?_)
     refine g_region ?_
     refine g_step rfl (s_val (v_move rfl) rfl rfl ?_)
     refine g_step rfl (s_val (v_move rfl) rfl rfl ?_)
     refine g_step rfl (s_val (v_move rfl) rfl rfl ?_)
     refine g_step rfl (s_val (v_move rfl) rfl rfl ?_)
     refine g_step rfl (s_val (v_add rfl rfl (by omega)) rfl rfl ?_)
     refine g_step rfl (s_val (v_slice_ownc (lo := i + m.length) (hi := l.length + m.length) ty41 ty3 rfl rfl rfl (by omega) (by omega) (by omega) (by omega) (.inr (by omega))) rfl rfl ?_)
     refine g_step rfl (s_val (v_overlaps ov97 ty41 ty3 rfl rfl (by rw [AHeap.get_set_ne _ _ hne]; exact hq1) (AHeap.get_set _ _ _) hne (by omega) rfl) rfl rfl ?_)
     refine g_step rfl (s_val (v_not rfl) rfl rfl ?_)
     refine g_nil ?_
     refine g_next hK16 ?_
     refine g_cond rfl (fun hc68 => ?_) (fun hc68 => ?_)
     ·
      try simp only [decide_eq_true_eq, decide_eq_false_iff_not, Bool.not_eq_true', Bool.not_eq_false', Bool.not_eq_eq_eq_not, Bool.not_true, Bool.not_false, Bool.and_eq_true, Bool.or_eq_true, Bool.or_eq_false_iff, beq_iff_eq, beq_eq_false_iff_ne, ne_eq, Int.not_lt, Int.not_le, Decidable.not_not] at hc68
      refine g_seq (fun K17 hK17 => ?_)
      refine g_draw (n := 9) (fun j => !([8] : List Nat).contains j) rfl rfl ?_
      refine m_take 0 false rfl rfl (by kernel_rfl) (by kernel_rfl) (by kernel_rfl) (fun _ _ _ _ h => h) (v_move rfl) rfl rfl ?_
      refine m_take 1 false rfl rfl (by kernel_rfl) (by kernel_rfl) (by kernel_rfl) (fun _ _ _ _ h => h) (v_move rfl) rfl rfl ?_
      refine m_take 2 false rfl rfl (by kernel_rfl) (by kernel_rfl) (by kernel_rfl) (fun _ _ _ _ h => h) (v_move rfl) rfl rfl ?_
      refine m_take 3 false rfl rfl (by kernel_rfl) (by kernel_rfl) (by kernel_rfl) (fun _ _ _ _ h => h) (v_add rfl rfl (by omega)) rfl rfl ?_
      refine m_take 4 false rfl rfl (by kernel_rfl) (by kernel_rfl) (by kernel_rfl) (fun _ _ _ _ h => h) (v_slice_ownc' (lo := i + m.length) (hi := l.length + m.length) ty41 ty3 rfl rfl rfl (by omega) (by omega) (by omega) (by omega) (.inr (by omega))) rfl rfl ?_
      refine m_take 5 false rfl rfl (by kernel_rfl) (by kernel_rfl) (by kernel_rfl) (fun _ _ _ _ h => h) (v_move rfl) rfl rfl ?_
      refine m_take 6 false rfl rfl (by kernel_rfl) (by kernel_rfl) (by kernel_rfl) (fun _ _ _ _ h => h) (v_move rfl) rfl rfl ?_
      refine m_take 7 false rfl rfl (by kernel_rfl) (by kernel_rfl) (by kernel_rfl) (fun _ _ _ _ h => h) (v_slice_ownc' (lo := i) (hi := l.length + m.length) ty41 ty3 rfl rfl rfl hzi (by omega) (by omega) (by omega) (.inr (by omega))) rfl rfl ?_
      refine m_one 8 (by kernel_rfl) rfl rfl ?_
      refine sm_any rfl (s_copyk (l := ((l.map (AV.int .i64)) ++ List.replicate m.length (unkE 1))) (m := ((l.drop i).map (AV.int .i64) ++ List.replicate m.length (unkE 1))) (l' := ((((l.map (AV.int .i64)) ++ List.replicate m.length (unkE 1))).take (i + m.length) ++ (l.drop i).map (AV.int .i64))) (k := l.length - i) ty41 ty3 rfl rfl (AHeap.get_set _ _ _) (by simp; omega) rfl (by rw [AV.view_own (AHeap.get_set _ _ _) (by simp; omega)]; congr 1; simp only [Nat.zero_add]; rw [List.drop_append_of_le_length (by simp; omega), List.map_drop, List.take_of_length_le (by simp; omega)]) (Even.append (by refine Even.map _ ?_ _; intro _; rfl) (fun y hy => by rw [List.eq_of_mem_replicate hy]; rfl)) (by rw [List.take_append_of_le_length (by simp), List.take_of_length_le (by simp)]; exact (by intro x hx; obtain ⟨_, _, rfl⟩ := List.mem_map.1 hx; rfl)) (.inl rfl) (by simp; omega) (by simp only [Nat.zero_add]; exact ins_c (AV.int .i64) l (List.replicate m.length (unkE 1)) i m.length (by simp) hi) ?_)
      rw [AHeap.set_set]
      refine m_done (by kernel_rfl) ?_
      refine g_next hK17 ?_
      refine g_seq (fun K18 hK18 => ?_)
      refine g_region ?_
      refine g_step rfl (s_val (v_move rfl) rfl rfl ?_)
      refine g_step rfl (s_val (v_move rfl) rfl rfl ?_)
      refine g_step rfl (s_val (v_slice_ownc' (lo := i) (hi := l.length + m.length) ty41 ty3 rfl rfl rfl hzi (by omega) (by omega) (by omega) (.inr (by omega))) rfl rfl ?_)
      refine g_step rfl (s_val (v_move rfl) rfl rfl ?_)
      refine g_step rfl (s_copy (l := ((((l.map (AV.int .i64)) ++ List.replicate m.length (unkE 1))).take (i + m.length) ++ (l.drop i).map (AV.int .i64))) (m := (m.map (AV.int .i64))) (l' := ((l.take i ++ m ++ l.drop i).map (AV.int .i64))) (k := m.length) ty41 ty3 rfl rfl (AHeap.get_set _ _ _) (by simp; omega) rfl (by rw [AV.view_own_all (by first | exact hq1 | (rw [AHeap.get_set_ne _ _ hne]; exact hq1) | (rw [AHeap.get_set_ne _ _ hqp]; exact hq1)) (by simp)]) (by refine Even.map _ ?_ _; intro _; rfl) (by intro x hx; obtain ⟨_, _, rfl⟩ := List.mem_map.1 hx; rfl) (.inl rfl) (by simp; omega) (by simp only [Nat.zero_add]; exact ins_d (AV.int .i64) l m (List.replicate m.length (unkE 1)) i (by simp) hi) ?_)
      rw [AHeap.set_set]
      refine g_nil ?_
      refine g_next hK18 ?_
      first | refine g_keep [0] [] [] (keep_cons rfl keep_nil) lkeep_nil keep_nil rfl ?_ | refine g_keep [0] [] [] rfl rfl rfl rfl ?_
      refine g_seq (fun K19 hK19 => ?_)
      refine g_region ?_
      refine g_step rfl (s_val (v_move rfl) rfl rfl ?_)
      refine g_step rfl (s_val (v_assign rfl) rfl rfl ?_)
      refine g_nil ?_
      refine g_next hK19 ?_
      refine g_ret ?_
      refine g_then_ret ?_
      refine g_end1 (.inl rfl) Try.results63 (.tmp rfl) [(r, .row 1 ((l.take i ++ m ++ l.drop i).map (AV.int .i64)))] (by show ASub (.ownc r 1 (0 + 0) (l.length + m.length - 0) _) _; exact ASub.ownc _ _ _ _ _) (AHeap.sub_refl _) (fun q' hq' => .inl (by simp at hq'; subst hq'; rw [hG]; simp)) ⟨r, .inl rfl, rfl, rfl⟩
     · exfalso; (try simp only [decide_eq_true_eq, decide_eq_false_iff_not, Bool.not_eq_true', Bool.not_eq_false', Bool.not_eq_eq_eq_not, Bool.not_true, Bool.not_false, Bool.and_eq_true, Bool.or_eq_true, Bool.or_eq_false_iff, beq_iff_eq, beq_eq_false_iff_ne, ne_eq, Int.not_lt, Int.not_le, Decidable.not_not] at hc68); simp at hc68
 ·
  refine g_step rfl (s_val (v_move rfl) rfl rfl ?_)
  refine g_step rfl (s_val (v_move rfl) rfl rfl ?_)
  refine g_step rfl (s_val (v_slice_empty (lo := i) ty41 ty3 rfl rfl rfl hzi (by omega) (by omega)) rfl rfl ?_)
  refine g_nil ?_
  refine g_next hK1 ?_
  refine g_seq (fun K20 hK20 => ?_)
  refine g_region ?_
  refine g_step rfl (s_val (v_move rfl) rfl rfl ?_)
  refine g_step rfl (s_val (v_len ty41 rfl (by rw [AV.view_own_all (by first | exact hq1 | (rw [AHeap.get_set_ne _ _ hne]; exact hq1) | (rw [AHeap.get_set_ne _ _ hqp]; exact hq1)) (by simp)]) (by simp; rfl)) rfl rfl ?_)
  refine g_step rfl (s_val (v_assign rfl) rfl rfl ?_)
  refine g_nil ?_
  refine g_next hK20 ?_
  refine g_seq (fun K21 hK21 => ?_)
  refine g_seq (fun K22 hK22 => ?_)
  refine g_region ?_
  refine g_step rfl (s_val (v_move rfl) rfl rfl ?_)
  refine g_step rfl (s_val (v_eql rfl rfl) rfl rfl ?_)
  refine g_nil ?_
  refine g_next hK22 ?_
  refine g_cond rfl (fun hc16 => ?_) (fun hc16 => ?_)
  · exfalso; (try simp only [decide_eq_true_eq, decide_eq_false_iff_not, Bool.not_eq_true', Bool.not_eq_false', Bool.not_eq_eq_eq_not, Bool.not_true, Bool.not_false, Bool.and_eq_true, Bool.or_eq_true, Bool.or_eq_false_iff, beq_iff_eq, beq_eq_false_iff_ne, ne_eq, Int.not_lt, Int.not_le, Decidable.not_not] at hc16); omega
  ·
   try simp only [decide_eq_true_eq, decide_eq_false_iff_not, Bool.not_eq_true', Bool.not_eq_false', Bool.not_eq_eq_eq_not, Bool.not_true, Bool.not_false, Bool.and_eq_true, Bool.or_eq_true, Bool.or_eq_false_iff, beq_iff_eq, beq_eq_false_iff_ne, ne_eq, Int.not_lt, Int.not_le, Decidable.not_not] at hc16
   refine g_skip ?_
   refine g_next hK21 ?_
   refine g_seq (fun K23 hK23 => ?_)
   refine g_region ?_
   refine g_step rfl (s_val (v_move rfl) rfl rfl ?_)
   refine g_step rfl (s_val (v_len ty41 rfl (AV.view_own_all hG1 (by simp)) (by simp; rfl)) rfl rfl ?_)
   refine g_step rfl (s_val (v_assign rfl) rfl rfl ?_)
   refine g_nil ?_
   refine g_next hK23 ?_
   refine g_seq (fun K24 hK24 => ?_)
   refine g_seq (fun K25 hK25 => ?_)
   refine g_region ?_
   refine g_step rfl (s_val (v_move rfl) rfl rfl ?_)
   refine g_step rfl (s_val (v_move rfl) rfl rfl ?_)
   refine g_step rfl (s_val (v_eql rfl rfl) rfl rfl ?_)
   refine g_nil ?_
   refine g_next hK25 ?_
   refine g_cond rfl (fun hc22 => ?_) (fun hc22 => ?_)
   ·
    try simp only [decide_eq_true_eq, decide_eq_false_iff_not, Bool.not_eq_true', Bool.not_eq_false', Bool.not_eq_eq_eq_not, Bool.not_true, Bool.not_false, Bool.and_eq_true, Bool.or_eq_true, Bool.or_eq_false_iff, beq_iff_eq, beq_eq_false_iff_ne, ne_eq, Int.not_lt, Int.not_le, Decidable.not_not] at hc22
    refine g_seq (fun K26 hK26 => ?_)
    refine g_region ?_
    refine g_step rfl (s_val (v_move rfl) rfl rfl ?_)
    refine g_step rfl (s_val (v_move rfl) rfl rfl ?_)
    refine g_cap 23 rfl (fun cp hcp => ?_)
    obtain rfl : i = l.length := by omega
    rcases Nat.lt_or_ge cp (l.length + m.length) with hroom | hroom
    ·
     refine g_step rfl (s_append_out (l := (l.map (AV.int .i64))) (m := (m.map (AV.int .i64))) (l' := ((l ++ m).map (AV.int .i64))) ty41 ty3 rfl rfl hG1 (by simp) (by simp; omega) rfl (by rw [AV.view_own_all (by first | exact hq1 | (rw [AHeap.get_set_ne _ _ hne]; exact hq1) | (rw [AHeap.get_set_ne _ _ hqp]; exact hq1)) (by simp)]) (by refine Even.map _ ?_ _; intro _; rfl) rfl (by simp; omega) (by simp; omega) (by simp [List.take_of_length_le]) ?_)
     intro p hp1 hp2
     refine g_step rfl (s_val (v_assign rfl) rfl rfl ?_)
     refine g_nil ?_
     refine g_next hK26 ?_
     refine g_ret ?_
     refine g_then_ret ?_
     refine g_end1 (.inl rfl) Try.results63 (.tmp rfl) [(p, .row 1 ((l ++ m).map (AV.int .i64)))] (by first | exact ASub.ownc _ _ _ _ _ | (refine cast ?_ (ASub.refl (.own r 1 0 (l.length + m.length))); congr 2; simp <;> omega) | (refine cast ?_ (ASub.refl (.own p 1 0 (l.length + m.length))); congr 1; congr 1; simp <;> omega)) (AHeap.sub_refl _) (fun q' hq' => .inr (by simp at hq'; subst hq'; exact hp2)) ⟨p, .inr hp2, rfl, by simp⟩
    ·
     refine g_room 23 m.length rfl hG1 (by simp) (by omega) ?_
     refine g_step rfl (s_append_in (l := ((l.map (AV.int .i64)) ++ List.replicate m.length (unkE 1))) (m := (m.map (AV.int .i64))) (l' := ((l ++ m).map (AV.int .i64))) ty41 ty3 rfl rfl (AHeap.get_set _ _ _) (by simp) (by simp; omega) rfl (by rw [AV.view_own_all (by first | exact hq1 | (rw [AHeap.get_set_ne _ _ hne]; exact hq1) | (rw [AHeap.get_set_ne _ _ hqp]; exact hq1)) (by simp)]) (by refine Even.map _ ?_ _; intro _; rfl) (by intro x hx; obtain ⟨_, _, rfl⟩ := List.mem_map.1 hx; rfl) (.inl rfl) (by simp [List.take_append_of_le_length, List.take_of_length_le]) ?_)
     rw [AHeap.set_set]
     refine g_step rfl (s_val (v_assign rfl) rfl rfl ?_)
     refine g_nil ?_
     refine g_next hK26 ?_
     refine g_ret ?_
     refine g_then_ret ?_
     refine g_end1 (.inl rfl) Try.results63 (.tmp rfl) [(r, .row 1 ((l ++ m).map (AV.int .i64)))] (by rw [show l.length + m.length = l.length + (m.map (AV.int .i64)).length by simp]; exact ASub.ownc _ _ _ _ _) (AHeap.sub_refl _) (fun q' hq' => .inl (by simp at hq'; subst hq'; rw [hG]; simp)) ⟨r, .inl rfl, rfl, by simp⟩
   · exfalso; (try simp only [decide_eq_true_eq, decide_eq_false_iff_not, Bool.not_eq_true', Bool.not_eq_false', Bool.not_eq_eq_eq_not, Bool.not_true, Bool.not_false, Bool.and_eq_true, Bool.or_eq_true, Bool.or_eq_false_iff, beq_iff_eq, beq_eq_false_iff_ne, ne_eq, Int.not_lt, Int.not_le, Decidable.not_not] at hc22); omega

theorem insINil_ok (q : Nat) (m : List Int) (G : AHeap) (hq : G q = some (.row 1 (m.map (AV.int .i64)))) (hm : 0 < m.length) (hb : m.length ≤ 1000000) : LCalls Try.prog 63 [.nil0, .int .i64 0, .own q 1 0 m.length] G noD (fun n v effs => OwnR n 1 v (m.map (AV.int .i64)) effs) := by
 refine LCalls.intro 95 fi63 rfl Try.ntmps63 rfl (fun _ h => h.elim) (fun H hH w0 hw0 => ?_)
 have hq1 := hH _ _ hq
 refine g_seq (fun K0 hK0 => ?_)
 refine g_region ?_
 refine g_step rfl (s_val (v_assign rfl) rfl rfl ?_)
 refine g_nil ?_
 refine g_next hK0 ?_
 refine g_seq (fun K1 hK1 => ?_)
 refine g_region ?_
 refine g_step rfl (s_val (v_move rfl) rfl rfl ?_)
 refine g_step rfl (s_val (v_move rfl) rfl rfl ?_)
 refine g_step rfl (s_val (v_slice_nil ty41 ty3 rfl rfl rfl (by first | rfl | omega) (by first | rfl | omega)) rfl rfl ?_)
 refine g_nil ?_
 refine g_next hK1 ?_
 refine g_seq (fun K2 hK2 => ?_)
 refine g_region ?_
 refine g_step rfl (s_val (v_move rfl) rfl rfl ?_)
 refine g_step rfl (s_val (v_len ty41 rfl (AV.view_own_all hq1 (by simp)) (by simp; rfl)) rfl rfl ?_)
 refine g_step rfl (s_val (v_assign rfl) rfl rfl ?_)
 refine g_nil ?_
 refine g_next hK2 ?_
 refine g_seq (fun K3 hK3 => ?_)
 refine g_seq (fun K4 hK4 => ?_)
 refine g_region ?_
 refine g_step rfl (s_val (v_move rfl) rfl rfl ?_)
 refine g_step rfl (s_val (v_eql rfl rfl) rfl rfl ?_)
 refine g_nil ?_
 refine g_next hK4 ?_
 refine g_cond rfl (fun hc16 => ?_) (fun hc16 => ?_)
 · exfalso; (try simp only [decide_eq_true_eq, decide_eq_false_iff_not, Bool.not_eq_true', Bool.not_eq_false', Bool.not_eq_eq_eq_not, Bool.not_true, Bool.not_false, Bool.and_eq_true, Bool.or_eq_true, Bool.or_eq_false_iff, beq_iff_eq, beq_eq_false_iff_ne, ne_eq, Int.not_lt, Int.not_le, Decidable.not_not] at hc16); omega
 ·
  try simp only [decide_eq_true_eq, decide_eq_false_iff_not, Bool.not_eq_true', Bool.not_eq_false', Bool.not_eq_eq_eq_not, Bool.not_true, Bool.not_false, Bool.and_eq_true, Bool.or_eq_true, Bool.or_eq_false_iff, beq_iff_eq, beq_eq_false_iff_ne, ne_eq, Int.not_lt, Int.not_le, Decidable.not_not] at hc16
  refine g_skip ?_
  refine g_next hK3 ?_
  refine g_seq (fun K5 hK5 => ?_)
  refine g_region ?_
  refine g_step rfl (s_val (v_move rfl) rfl rfl ?_)
  refine g_step rfl (s_val (v_len ty41 rfl rfl (by first | exact List.length_map .. | rfl)) rfl rfl ?_)
  refine g_step rfl (s_val (v_assign rfl) rfl rfl ?_)
  refine g_nil ?_
  refine g_next hK5 ?_
  refine g_seq (fun K6 hK6 => ?_)
  refine g_seq (fun K7 hK7 => ?_)
  refine g_region ?_
  refine g_step rfl (s_val (v_move rfl) rfl rfl ?_)
  refine g_step rfl (s_val (v_move rfl) rfl rfl ?_)
  refine g_step rfl (s_val (v_eql rfl rfl) rfl rfl ?_)
  refine g_nil ?_
  refine g_next hK7 ?_
  refine g_cond rfl (fun hc22 => ?_) (fun hc22 => ?_)
  ·
   try simp only [decide_eq_true_eq, decide_eq_false_iff_not, Bool.not_eq_true', Bool.not_eq_false', Bool.not_eq_eq_eq_not, Bool.not_true, Bool.not_false, Bool.and_eq_true, Bool.or_eq_true, Bool.or_eq_false_iff, beq_iff_eq, beq_eq_false_iff_ne, ne_eq, Int.not_lt, Int.not_le, Decidable.not_not] at hc22
   refine g_seq (fun K8 hK8 => ?_)
   refine g_region ?_
   refine g_step rfl (s_val (v_move rfl) rfl rfl ?_)
   refine g_step rfl (s_val (v_move rfl) rfl rfl ?_)
   refine g_step rfl (s_append (l := []) (m := (m.map (AV.int .i64))) ty41 ty3 rfl rfl (Own.nil ..) rfl (AV.view_own_all hq1 (by simp)) (by refine Even.map _ ?_ _; intro _; rfl) (by intro x hx; obtain ⟨_, _, rfl⟩ := List.mem_map.1 hx; rfl) rfl (by simp; omega) (by simp; omega) ?_)
   intro av25 G25 hown25
   obtain ⟨e, he1, he2, he3⟩ := hown25.effs
   rw [List.nil_append] at he1
   refine g_step rfl (s_val (v_assign rfl) rfl rfl ?_)
   refine g_nil ?_
   refine g_next hK8 ?_
   refine g_ret ?_
   refine g_then_ret ?_
   refine g_end1 (.inl rfl) Try.results63 (.tmp rfl) e (ASub.refl _) (by rw [he3]; exact AHeap.sub_refl _) (fun q hq => .inr (he2 q hq)) he1
  · exfalso; (try simp only [decide_eq_true_eq, decide_eq_false_iff_not, Bool.not_eq_true', Bool.not_eq_false', Bool.not_eq_eq_eq_not, Bool.not_true, Bool.not_false, Bool.and_eq_true, Bool.or_eq_true, Bool.or_eq_false_iff, beq_iff_eq, beq_eq_false_iff_ne, ne_eq, Int.not_lt, Int.not_le, Decidable.not_not] at hc22); simp at hc22

theorem delI_ok (r i j : Nat) (l : List Int) (zi zj : Int) (G : AHeap) (hzi : zi = (i : Int)) (hzj : zj = (j : Int)) (hG : G r = some (.row 1 (l.map (AV.int .i64)))) (hij : i < j) (hj : j ≤ l.length) (hl : l.length ≤ 1000000) : LCalls Try.prog 64 [.own r 1 0 l.length, .int .i64 zi, .int .i64 zj] G (· = r) (fun n v effs => v = .own r 1 0 (l.length - (j - i)) ∧ effs = [(r, .row 1 (((l.take i ++ l.drop j).map (AV.int .i64)) ++ List.replicate (j - i) (.int .i64 0)))]) := by
 refine LCalls.intro 33 fi64 rfl Try.ntmps64 rfl (fun b hb => by subst hb; rw [hG]; simp) (fun H hH w0 hw0 => ?_)
 have hG1 := hH _ _ hG
 refine g_seq (fun K0 hK0 => ?_)
 refine g_region ?_
 refine g_step rfl (s_val (v_assign rfl) rfl rfl ?_)
 refine g_nil ?_
 refine g_next hK0 ?_
 refine g_seq (fun K1 hK1 => ?_)
 refine g_region ?_
 refine g_step rfl (s_val (v_move rfl) rfl rfl ?_)
 refine g_step rfl (s_val (v_move rfl) rfl rfl ?_)
 refine g_step rfl (s_val (v_move rfl) rfl rfl ?_)
 refine g_step rfl (s_val (v_move rfl) rfl rfl ?_)
 refine g_step rfl (s_val (v_len ty41 rfl (AV.view_own_all hG1 (by simp)) (by simp; rfl)) rfl rfl ?_)
 refine g_step rfl (s_val (v_slice_max (lo := i) (hi := j) (mx := l.length) ty41 ty3 rfl rfl rfl rfl hzi hzj rfl (by omega) hj (Nat.le_refl _)) rfl rfl ?_)
 refine g_nil ?_
 refine g_next hK1 ?_
 refine g_seq (fun K2 hK2 => ?_)
 refine g_seq (fun K3 hK3 => ?_)
 refine g_region ?_
 refine g_step rfl (s_val (v_move rfl) rfl rfl ?_)
 refine g_step rfl (s_val (v_move rfl) rfl rfl ?_)
 refine g_step rfl (s_val (v_eql rfl rfl) rfl rfl ?_)
 refine g_nil ?_
 refine g_next hK3 ?_
 refine g_cond rfl (fun hc16 => ?_) (fun hc16 => ?_)
 · exfalso; (try simp only [decide_eq_true_eq, decide_eq_false_iff_not, Bool.not_eq_true', Bool.not_eq_false', Bool.not_eq_eq_eq_not, Bool.not_true, Bool.not_false, Bool.and_eq_true, Bool.or_eq_true, Bool.or_eq_false_iff, beq_iff_eq, beq_eq_false_iff_ne, ne_eq, Int.not_lt, Int.not_le, Decidable.not_not] at hc16); omega
 ·
  try simp only [decide_eq_true_eq, decide_eq_false_iff_not, Bool.not_eq_true', Bool.not_eq_false', Bool.not_eq_eq_eq_not, Bool.not_true, Bool.not_false, Bool.and_eq_true, Bool.or_eq_true, Bool.or_eq_false_iff, beq_iff_eq, beq_eq_false_iff_ne, ne_eq, Int.not_lt, Int.not_le, Decidable.not_not] at hc16
  refine g_skip ?_
  refine g_next hK2 ?_
  refine g_seq (fun K4 hK4 => ?_)
  refine g_region ?_
  rcases Nat.lt_or_ge j l.length with hjl | hjl
  ·
   refine g_step rfl (s_val (v_move rfl) rfl rfl ?_)
   refine g_step rfl (s_val (v_len ty41 rfl (AV.view_own_all hG1 (by simp)) (by simp; rfl)) rfl rfl ?_)
   refine g_step rfl (s_val (v_assign rfl) rfl rfl ?_)
   refine g_nil ?_
   refine g_next hK4 ?_
   refine g_seq (fun K5 hK5 => ?_)
   refine g_draw (n := 8) (fun j => !([6] : List Nat).contains j) rfl rfl ?_
   refine g_cap 0 rfl (fun cp hcp => ?_)
   refine m_take 0 false rfl rfl (by kernel_rfl) (by kernel_rfl) (by kernel_rfl) (fun _ _ _ _ h => h) (v_move rfl) rfl rfl ?_
   refine m_take 1 false rfl rfl (by kernel_rfl) (by kernel_rfl) (by kernel_rfl) (fun _ _ _ _ h => h) (v_move rfl) rfl rfl ?_
   refine m_take 2 false rfl rfl (by kernel_rfl) (by kernel_rfl) (by kernel_rfl) (fun _ _ _ _ h => h) (v_slice_ownc (lo := 0) (hi := i) ty41 ty3 rfl rfl rfl rfl hzi (by omega) (by omega) (.inl rfl)) rfl rfl ?_
   refine m_take 3 false rfl rfl (by kernel_rfl) (by kernel_rfl) (by kernel_rfl) (fun _ _ _ _ h => h) (v_move_ownc rfl) rfl rfl ?_
   refine m_take 4 false rfl rfl (by kernel_rfl) (by kernel_rfl) (by kernel_rfl) (fun _ _ _ _ h => h) (v_move rfl) rfl rfl ?_
   refine m_take 5 false rfl rfl (by kernel_rfl) (by kernel_rfl) (by kernel_rfl) (fun _ _ _ _ h => h) (v_slice_own (lo := j) (hi := l.length) ty41 ty3 rfl rfl rfl hzj rfl (by omega) (by omega) (.inr hjl)) rfl rfl ?_
   refine m_one 6 (by kernel_rfl) rfl rfl ?_
   refine sm_any rfl (s_append_in (l := (l.map (AV.int .i64))) (m := ((l.drop j).map (AV.int .i64))) (l' := (((l.take i ++ l.drop j).map (AV.int .i64)) ++ (l.drop (i + (l.length - j))).map (AV.int .i64))) ty41 ty3 rfl rfl hG1 (by simp; omega) (by simp; omega) rfl (by rw [AV.view_own hG1 (by simp; omega)]; congr 1; rw [Nat.zero_add, List.map_drop, List.take_of_length_le (by simp)]) (by refine Even.map _ ?_ _; intro _; rfl) (by intro x hx; obtain ⟨_, _, rfl⟩ := List.mem_map.1 hx; rfl) (.inl rfl) (del_a (AV.int .i64) l (by omega) hj) ?_)
   refine m_take 7 false rfl rfl (by kernel_rfl) (by kernel_rfl) (by kernel_rfl) (fun _ _ _ _ h => h) (v_assign rfl) rfl rfl ?_
   refine m_done (by kernel_rfl) ?_
   refine g_next hK5 ?_
   refine g_seq (fun K6 hK6 => ?_)
   refine g_region ?_
   refine g_step rfl (s_val (v_move rfl) rfl rfl ?_)
   refine g_step rfl (s_val (v_move_ownc rfl) rfl rfl ?_)
   refine g_step rfl (s_val (v_len ty41 rfl (AV.view_own (AHeap.get_set _ _ _) (by simp; omega)) (by simp; rfl)) rfl rfl ?_)
   refine g_step rfl (s_val (v_move rfl) rfl rfl ?_)
   refine g_step rfl (s_val (v_slice_ownc' (lo := i + (l.length - j)) (hi := l.length) ty41 ty3 rfl rfl rfl (by simp; omega) rfl (by omega) (by omega) (.inr (by omega))) rfl rfl ?_)
   refine g_step rfl (s_clear (l := (((l.take i ++ l.drop j).map (AV.int .i64)) ++ (l.drop (i + (l.length - j))).map (AV.int .i64))) (l' := (((l.take i ++ l.drop j).map (AV.int .i64)) ++ List.replicate (j - i) (.int .i64 0))) (za := (.int .i64 0)) ty41 ty3 rfl (AHeap.get_set _ _ _) (by simp; omega) rfl rfl rfl rfl (.inl rfl) (del_b (AV.int .i64) (.int .i64 0) l (by omega) hj) ?_)
   rw [AHeap.set_set]
   refine g_nil ?_
   refine g_next hK6 ?_
   first | refine g_keep [0] [] [] (keep_cons rfl keep_nil) lkeep_nil keep_nil rfl ?_ | refine g_keep [0] [] [] rfl rfl rfl rfl ?_
   refine g_seq (fun K7 hK7 => ?_)
   refine g_region ?_
   refine g_step rfl (s_val (v_move_ownc rfl) rfl rfl ?_)
   refine g_step rfl (s_val (v_assign rfl) rfl rfl ?_)
   refine g_nil ?_
   refine g_next hK7 ?_
   refine g_ret ?_
   refine g_end1 (.inl rfl) Try.results64 (.tmp rfl) [(r, .row 1 (((l.take i ++ l.drop j).map (AV.int .i64)) ++ List.replicate (j - i) (.int .i64 0)))] (by refine cast ?_ (ASub.refl (.own r 1 0 (l.length - (j - i)))); congr 1; congr 1; simp <;> omega) (AHeap.sub_refl _) (fun q' hq' => .inl (by simp at hq'; subst hq'; rw [hG]; simp)) ⟨rfl, rfl⟩
  ·
   refine g_step rfl (s_val (v_move rfl) rfl rfl ?_)
   refine g_step rfl (s_val (v_len ty41 rfl (AV.view_own_all hG1 (by simp)) (by simp; rfl)) rfl rfl ?_)
   refine g_step rfl (s_val (v_assign rfl) rfl rfl ?_)
   refine g_nil ?_
   refine g_next hK4 ?_
   refine g_seq (fun K8 hK8 => ?_)
   refine g_draw (n := 8) (fun j => !([6] : List Nat).contains j) rfl rfl ?_
   refine g_cap 0 rfl (fun cp hcp => ?_)
   refine m_take 0 false rfl rfl (by kernel_rfl) (by kernel_rfl) (by kernel_rfl) (fun _ _ _ _ h => h) (v_move rfl) rfl rfl ?_
   refine m_take 1 false rfl rfl (by kernel_rfl) (by kernel_rfl) (by kernel_rfl) (fun _ _ _ _ h => h) (v_move rfl) rfl rfl ?_
   refine m_take 2 false rfl rfl (by kernel_rfl) (by kernel_rfl) (by kernel_rfl) (fun _ _ _ _ h => h) (v_slice_ownc (lo := 0) (hi := i) ty41 ty3 rfl rfl rfl rfl hzi (by omega) (by omega) (.inl rfl)) rfl rfl ?_
   refine m_take 3 false rfl rfl (by kernel_rfl) (by kernel_rfl) (by kernel_rfl) (fun _ _ _ _ h => h) (v_move_ownc rfl) rfl rfl ?_
   refine m_take 4 false rfl rfl (by kernel_rfl) (by kernel_rfl) (by kernel_rfl) (fun _ _ _ _ h => h) (v_move rfl) rfl rfl ?_
   refine m_take 5 false rfl rfl (by kernel_rfl) (by kernel_rfl) (by kernel_rfl) (fun _ _ _ _ h => h) (v_slice_empty (lo := j) ty41 ty3 rfl rfl rfl hzj (by omega) (by omega)) rfl rfl ?_
   refine m_one 6 (by kernel_rfl) rfl rfl ?_
   refine sm_any rfl (s_append_in (l := (l.map (AV.int .i64))) (m := ((l.drop j).map (AV.int .i64))) (l' := (((l.take i ++ l.drop j).map (AV.int .i64)) ++ (l.drop (i + (l.length - j))).map (AV.int .i64))) ty41 ty3 rfl rfl hG1 (by simp; omega) (by simp; omega) rfl (by rw [List.drop_of_length_le hjl]; rfl) (by refine Even.map _ ?_ _; intro _; rfl) (by intro x hx; obtain ⟨_, _, rfl⟩ := List.mem_map.1 hx; rfl) (.inl rfl) (del_a (AV.int .i64) l (by omega) hj) ?_)
   refine m_take 7 false rfl rfl (by kernel_rfl) (by kernel_rfl) (by kernel_rfl) (fun _ _ _ _ h => h) (v_assign rfl) rfl rfl ?_
   refine m_done (by kernel_rfl) ?_
   refine g_next hK8 ?_
   refine g_seq (fun K9 hK9 => ?_)
   refine g_region ?_
   refine g_step rfl (s_val (v_move rfl) rfl rfl ?_)
   refine g_step rfl (s_val (v_move_ownc rfl) rfl rfl ?_)
   refine g_step rfl (s_val (v_len ty41 rfl (AV.view_own (AHeap.get_set _ _ _) (by simp; omega)) (by simp; rfl)) rfl rfl ?_)
   refine g_step rfl (s_val (v_move rfl) rfl rfl ?_)
   refine g_step rfl (s_val (v_slice_ownc' (lo := i + (l.length - j)) (hi := l.length) ty41 ty3 rfl rfl rfl (by simp; omega) rfl (by omega) (by omega) (.inr (by omega))) rfl rfl ?_)
   refine g_step rfl (s_clear (l := (((l.take i ++ l.drop j).map (AV.int .i64)) ++ (l.drop (i + (l.length - j))).map (AV.int .i64))) (l' := (((l.take i ++ l.drop j).map (AV.int .i64)) ++ List.replicate (j - i) (.int .i64 0))) (za := (.int .i64 0)) ty41 ty3 rfl (AHeap.get_set _ _ _) (by simp; omega) rfl rfl rfl rfl (.inl rfl) (del_b (AV.int .i64) (.int .i64 0) l (by omega) hj) ?_)
   rw [AHeap.set_set]
   refine g_nil ?_
   refine g_next hK9 ?_
   first | refine g_keep [0] [] [] (keep_cons rfl keep_nil) lkeep_nil keep_nil rfl ?_ | refine g_keep [0] [] [] rfl rfl rfl rfl ?_
   refine g_seq (fun K10 hK10 => ?_)
   refine g_region ?_
   refine g_step rfl (s_val (v_move_ownc rfl) rfl rfl ?_)
   refine g_step rfl (s_val (v_assign rfl) rfl rfl ?_)
   refine g_nil ?_
   refine g_next hK10 ?_
   refine g_ret ?_
   refine g_end1 (.inl rfl) Try.results64 (.tmp rfl) [(r, .row 1 (((l.take i ++ l.drop j).map (AV.int .i64)) ++ List.replicate (j - i) (.int .i64 0)))] (by refine cast ?_ (ASub.refl (.own r 1 0 (l.length - (j - i)))); congr 1; congr 1; simp <;> omega) (AHeap.sub_refl _) (fun q' hq' => .inl (by simp at hq'; subst hq'; rw [hG]; simp)) ⟨rfl, rfl⟩

theorem index_ok (l : List Int) (v : Int) (G : AHeap) (va : AV) (hva : va.view G = some (l.map (.int .i64))) (hl : l.length ≤ 1000000) : PCalls Try.prog 96 [va, .int .i64 v] G (fun r => r = .int .i64 (fidxZ (fun x => decide (x = v)) l)) := by
 refine LCalls.intro 19 fi96 rfl Try.ntmps96 rfl (fun _ h => h.elim) (fun H hH w0 hw0 => ?_)
 have hva := view_sub hH hva
 refine g_seq (fun K0 hK0 => ?_)
 refine g_region ?_
 refine g_step rfl (s_val (v_assign rfl) rfl rfl ?_)
 refine g_nil ?_
 refine g_next hK0 ?_
 refine g_seq (fun K1 hK1 => ?_)
 refine g_seq (fun K2 hK2 => ?_)
 refine g_region ?_
 refine g_step rfl (s_val (v_move rfl) rfl rfl ?_)
 refine g_step rfl (s_val (v_len ty41 rfl (by first | rfl | assumption) (by first | exact List.length_map .. | rfl)) rfl rfl ?_)
 refine g_step rfl (s_val (v_move rfl) rfl rfl ?_)
 refine g_nil ?_
 refine g_next hK2 ?_
 refine g_block ?_
 first | refine g_keep [0, 1, 7, 8] [] [] (keep_cons rfl (keep_cons rfl (keep_cons rfl (keep_cons rfl keep_nil)))) lkeep_nil keep_nil rfl ?_ | refine g_keep [0, 1, 7, 8] [] [] rfl rfl rfl rfl ?_
 refine g_loop (fun n env L B G => ∃ (k : Nat) , k ≤ l.length ∧ n = l.length - k ∧ env = [(0, va), (1, .int .i64 v), (7, .int .i64 (l.length : Int)), (8, .int .i64 (k : Int))] ∧ L = [] ∧ B = [] ∧ H = G ∧ fidx (fun x => decide (x = v)) (l.drop k) + k = fidx (fun x => decide (x = v)) l) (l.length) ⟨0, Nat.zero_le _, rfl, rfl, rfl, rfl, rfl, rfl⟩ (fun n env L B G hI => ?_)
 obtain ⟨k, hk, rfl, rfl, rfl, rfl, rfl, hc⟩ := hI
 refine g_seq (fun K3 hK3 => ?_)
 refine g_region ?_
 refine g_step rfl (s_val (v_lss rfl rfl) rfl rfl ?_)
 refine g_nil ?_
 refine g_next hK3 ?_
 refine g_seq (fun K4 hK4 => ?_)
 refine g_cond rfl (fun hc9 => ?_) (fun hc9 => ?_)
 ·
  try simp only [decide_eq_true_eq, decide_eq_false_iff_not, Bool.not_eq_true', Bool.not_eq_false', Bool.not_eq_eq_eq_not, Bool.not_true, Bool.not_false, Bool.and_eq_true, Bool.or_eq_true, Bool.or_eq_false_iff, beq_iff_eq, beq_eq_false_iff_ne, ne_eq, Int.not_lt, Int.not_le, Decidable.not_not] at hc9
  obtain ⟨x, hx⟩ := get_some (l := l) (k := k) (by omega)
  refine g_skip ?_
  refine g_next hK4 ?_
  refine g_seq (fun K5 hK5 => ?_)
  refine g_block ?_
  refine g_seq (fun K6 hK6 => ?_)
  refine g_region ?_
  refine g_step rfl (s_val (v_move rfl) rfl rfl ?_)
  refine g_step rfl (s_val (v_assign rfl) rfl rfl ?_)
  refine g_nil ?_
  refine g_next hK6 ?_
  refine g_seq (fun K7 hK7 => ?_)
  refine g_region ?_
  refine g_step rfl (s_val (v_move rfl) rfl rfl ?_)
  refine g_step rfl (s_val (v_move rfl) rfl rfl ?_)
  refine g_step rfl (s_val (v_move rfl) rfl rfl ?_)
  refine g_step rfl (s_val (v_indexAddr ty41 ty3 rfl rfl (by first | rfl | assumption) (by first | rfl | exact (rfl : (0 : Int) = ((0 : Nat) : Int)) | exact (Int.toNat_of_nonneg (by omega)).symm) (by first | assumption | exact map_get (by assumption) | rfl) rfl) rfl rfl ?_)
  refine g_step rfl (s_val (by first | exact v_load ty3 rfl rfl (by first | rfl | assumption) (by first | assumption | exact map_get (by assumption) | rfl) rfl | exact v_load_box ty3 rfl rfl (by assumption) rfl) rfl rfl ?_)
  refine g_step rfl (s_val (v_eql rfl rfl) rfl rfl ?_)
  refine g_nil ?_
  refine g_next hK7 ?_
  refine g_cond rfl (fun hc16 => ?_) (fun hc16 => ?_)
  ·
   try simp only [decide_eq_true_eq, decide_eq_false_iff_not, Bool.not_eq_true', Bool.not_eq_false', Bool.not_eq_eq_eq_not, Bool.not_true, Bool.not_false, Bool.and_eq_true, Bool.or_eq_true, Bool.or_eq_false_iff, beq_iff_eq, beq_eq_false_iff_ne, ne_eq, Int.not_lt, Int.not_le, Decidable.not_not] at hc16
   refine g_seq (fun K8 hK8 => ?_)
   refine g_region ?_
   refine g_step rfl (s_val (v_move rfl) rfl rfl ?_)
   refine g_step rfl (s_val (v_assign rfl) rfl rfl ?_)
   refine g_nil ?_
   refine g_next hK8 ?_
   refine g_ret ?_
   refine g_block_ret ?_
   refine g_then_ret ?_
   refine g_then_ret ?_
   refine g_block_ret ?_
   refine g_then_ret ?_
   refine g_end1 (.inl rfl) Try.results96 (.tmp rfl) [] (ASub.refl _) (AHeap.sub_refl _) (fun p hp => by cases hp) ⟨rfl, ?_⟩
   first | (rw [fidxZ, fidx_hit hc hx (by simp; omega), if_pos (by omega)]; done) | (rw [fidxZ, fidx_hit hc hx (by simp; omega), if_pos (by omega)]; rfl)
  ·
   try simp only [decide_eq_true_eq, decide_eq_false_iff_not, Bool.not_eq_true', Bool.not_eq_false', Bool.not_eq_eq_eq_not, Bool.not_true, Bool.not_false, Bool.and_eq_true, Bool.or_eq_true, Bool.or_eq_false_iff, beq_iff_eq, beq_eq_false_iff_ne, ne_eq, Int.not_lt, Int.not_le, Decidable.not_not] at hc16
   refine g_skip ?_
   refine g_block_normal ?_
   refine g_next hK5 ?_
   refine g_region ?_
   refine g_step rfl (s_val (v_add rfl rfl (by omega)) rfl rfl ?_)
   refine g_step rfl (s_val (v_move rfl) rfl rfl ?_)
   refine g_nil ?_
   first | refine g_keep [0, 1, 7, 8] [] [] (keep_cons rfl (keep_cons rfl (keep_cons rfl (keep_cons rfl keep_nil)))) lkeep_nil keep_nil rfl ?_ | refine g_keep [0, 1, 7, 8] [] [] rfl rfl rfl rfl ?_
   exact g_round _ (by omega) ⟨k + 1, by omega, rfl, rfl, rfl, rfl, rfl, fidx_miss hc hx (by simp; omega)⟩
 ·
  try simp only [decide_eq_true_eq, decide_eq_false_iff_not, Bool.not_eq_true', Bool.not_eq_false', Bool.not_eq_eq_eq_not, Bool.not_true, Bool.not_false, Bool.and_eq_true, Bool.or_eq_true, Bool.or_eq_false_iff, beq_iff_eq, beq_eq_false_iff_ne, ne_eq, Int.not_lt, Int.not_le, Decidable.not_not] at hc9
  obtain rfl : k = l.length := by omega
  refine g_exit ?_
  refine g_then_exit ?_
  refine g_then_exit ?_
  refine g_block_same ?_
  refine g_next hK1 ?_
  refine g_seq (fun K9 hK9 => ?_)
  refine g_region ?_
  refine g_step rfl (s_val (v_assign rfl) rfl rfl ?_)
  refine g_nil ?_
  refine g_next hK9 ?_
  refine g_ret ?_
  refine g_end1 (.inl rfl) Try.results96 (.tmp rfl) [] (ASub.refl _) (AHeap.sub_refl _) (fun p hp => by cases hp) ⟨rfl, ?_⟩
  first | (rw [fidxZ, fidx_end hc, if_neg (by omega)]; done) | (rw [fidxZ, fidx_end hc, if_neg (by omega)]; rfl)

theorem contains_ok (l : List Int) (v : Int) (G : AHeap) (va : AV) (hva : va.view G = some (l.map (.int .i64))) (hl : l.length ≤ 1000000) : PCalls Try.prog 62 [va, .int .i64 v] G (fun r => r = .bool (decide (v ∈ l))) := by
 refine LCalls.intro 9 fi62 rfl Try.ntmps62 rfl (fun _ h => h.elim) (fun H hH w0 hw0 => ?_)
 have hva := view_sub hH hva
 refine g_seq (fun K0 hK0 => ?_)
 refine g_region ?_
 refine g_step rfl (s_val (v_assign rfl) rfl rfl ?_)
 refine g_nil ?_
 refine g_next hK0 ?_
 refine g_seq (fun K1 hK1 => ?_)
 refine g_region ?_
 refine g_step rfl (s_val (v_move rfl) rfl rfl ?_)
 refine g_step rfl (s_val (v_move rfl) rfl rfl ?_)
 refine g_step rfl (s_callp rfl rfl rfl (index_ok l v _ va hva hl) ?_)
 rintro _ rfl
 refine g_step rfl (s_val (v_geq rfl rfl) rfl rfl ?_)
 refine g_step rfl (s_val (v_assign rfl) rfl rfl ?_)
 refine g_nil ?_
 refine g_next hK1 ?_
 refine g_ret ?_
 refine g_end1 (.inl rfl) Try.results62 (.tmp rfl) [] (ASub.refl _) (AHeap.sub_refl _) (fun p hp => by cases hp) ⟨rfl, ?_⟩
 first | (rw [fidxZ_any]; congr 1; exact any_mem l v; done) | (rw [fidxZ_any]; congr 1; exact any_mem l v; rfl)

theorem isNaNs_ok (x : Int) (G : AHeap) : PCalls Try.prog 94 [.int .i64 x] G (fun r => r = .bool false) := by
 refine LCalls.intro 6 fi94 rfl Try.ntmps94 rfl (fun _ h => h.elim) (fun H hH w0 hw0 => ?_)
 refine g_seq (fun K0 hK0 => ?_)
 refine g_region ?_
 refine g_step rfl (s_val (v_assign rfl) rfl rfl ?_)
 refine g_nil ?_
 refine g_next hK0 ?_
 refine g_seq (fun K1 hK1 => ?_)
 refine g_region ?_
 refine g_step rfl (s_val (v_move rfl) rfl rfl ?_)
 refine g_step rfl (s_val (v_move rfl) rfl rfl ?_)
 refine g_step rfl (s_val (v_neq rfl rfl) rfl rfl ?_)
 refine g_step rfl (s_val (v_assign rfl) rfl rfl ?_)
 refine g_nil ?_
 refine g_next hK1 ?_
 refine g_ret ?_
 refine g_end1 (.inl rfl) Try.results94 (.tmp rfl) [] (ASub.refl _) (AHeap.sub_refl _) (fun p hp => by cases hp) ⟨rfl, ?_⟩
 first | (simp; done) | (simp; rfl)

theorem isNaNc_ok (x : Int) (G : AHeap) : PCalls Try.prog 120 [.int .i64 x] G (fun r => r = .bool false) := by
 refine LCalls.intro 6 fi120 rfl Try.ntmps120 rfl (fun _ h => h.elim) (fun H hH w0 hw0 => ?_)
 refine g_seq (fun K0 hK0 => ?_)
 refine g_region ?_
 refine g_step rfl (s_val (v_assign rfl) rfl rfl ?_)
 refine g_nil ?_
 refine g_next hK0 ?_
 refine g_seq (fun K1 hK1 => ?_)
 refine g_region ?_
 refine g_step rfl (s_val (v_move rfl) rfl rfl ?_)
 refine g_step rfl (s_val (v_move rfl) rfl rfl ?_)
 refine g_step rfl (s_val (v_neq rfl rfl) rfl rfl ?_)
 refine g_step rfl (s_val (v_assign rfl) rfl rfl ?_)
 refine g_nil ?_
 refine g_next hK1 ?_
 refine g_ret ?_
 refine g_end1 (.inl rfl) Try.results120 (.tmp rfl) [] (ASub.refl _) (AHeap.sub_refl _) (fun p hp => by cases hp) ⟨rfl, ?_⟩
 first | (simp; done) | (simp; rfl)

theorem less_ok (x y : Int) (G : AHeap) : PCalls Try.prog 93 [.int .i64 x, .int .i64 y] G (fun r => r = .bool (decide (x < y))) := by
 refine LCalls.intro 17 fi93 rfl Try.ntmps93 rfl (fun _ h => h.elim) (fun H hH w0 hw0 => ?_)
 refine g_seq (fun K0 hK0 => ?_)
 refine g_region ?_
 refine g_step rfl (s_val (v_assign rfl) rfl rfl ?_)
 refine g_nil ?_
 refine g_next hK0 ?_
 refine g_seq (fun K1 hK1 => ?_)
 refine g_region ?_
 refine g_step rfl (s_val (v_move rfl) rfl rfl ?_)
 refine g_step rfl (s_callp rfl rfl rfl (isNaNc_ok x _) ?_)
 rintro _ rfl
 refine g_step rfl (s_val (v_move rfl) rfl rfl ?_)
 refine g_split 7 rfl (fun hg7 => ?_) (fun hg7 => ?_)
 · exfalso; (try simp only [decide_eq_true_eq, decide_eq_false_iff_not, Bool.not_eq_true', Bool.not_eq_false', Bool.not_eq_eq_eq_not, Bool.not_true, Bool.not_false, Bool.and_eq_true, Bool.or_eq_true, Bool.or_eq_false_iff, beq_iff_eq, beq_eq_false_iff_ne, ne_eq, Int.not_lt, Int.not_le, Decidable.not_not] at hg7); simp at hg7
 ·
  try simp only [decide_eq_true_eq, decide_eq_false_iff_not, Bool.not_eq_true', Bool.not_eq_false', Bool.not_eq_eq_eq_not, Bool.not_true, Bool.not_false, Bool.and_eq_true, Bool.or_eq_true, Bool.or_eq_false_iff, beq_iff_eq, beq_eq_false_iff_ne, ne_eq, Int.not_lt, Int.not_le, Decidable.not_not] at hg7
  refine g_step_no (j := 2) (t := 7) rfl rfl rfl rfl rfl rfl rfl ?_
  refine g_step_no (j := 2) (t := 7) rfl rfl rfl rfl rfl rfl rfl ?_
  refine g_step_no (j := 2) (t := 7) rfl rfl rfl rfl rfl rfl rfl ?_
  refine g_step rfl (s_val (v_pick_f rfl rfl) rfl rfl ?_)
  refine g_step rfl (s_val (v_move rfl) rfl rfl ?_)
  refine g_step_yes (j := 7) (t := 12) rfl rfl rfl rfl (s_val (v_move rfl) rfl rfl ?_)
  refine g_step_yes (j := 7) (t := 12) rfl rfl rfl rfl (s_val (v_move rfl) rfl rfl ?_)
  refine g_step_yes (j := 7) (t := 12) rfl rfl rfl rfl (s_val (v_lss rfl rfl) rfl rfl ?_)
  refine g_step rfl (s_val (v_pick_f rfl rfl) rfl rfl ?_)
  refine g_step rfl (s_val (v_assign rfl) rfl rfl ?_)
  refine g_nil ?_
  refine g_next hK1 ?_
  refine g_ret ?_
  refine g_end1 (.inl rfl) Try.results93 (.tmp rfl) [] (ASub.refl _) (AHeap.sub_refl _) (fun p hp => by cases hp) ⟨rfl, ?_⟩
  rfl

theorem bs_ok (l : List Int) (x : Int) (G : AHeap) (va : AV) (hva : va.view G = some (l.map (.int .i64))) (hl : l.length ≤ 1000000) (hs : l.Pairwise (· < ·)) : PCalls Try.prog 60 [va, .int .i64 x] G (fun r => ∃ i : Int, r = .tup [.int .i64 i, .bool (decide (x ∈ l))]) := by
 refine LCalls.intro 54 fi60 rfl Try.ntmps60 rfl (fun _ h => h.elim) (fun H hH w0 hw0 => ?_)
 have hva := view_sub hH hva
 refine g_seq (fun K0 hK0 => ?_)
 refine g_region ?_
 refine g_step rfl (s_val (v_assign rfl) rfl rfl ?_)
 refine g_step rfl (s_val (v_assign rfl) rfl rfl ?_)
 refine g_nil ?_
 refine g_next hK0 ?_
 refine g_seq (fun K1 hK1 => ?_)
 refine g_region ?_
 refine g_step rfl (s_val (v_move rfl) rfl rfl ?_)
 refine g_step rfl (s_val (v_len ty41 rfl (by first | rfl | assumption) (by first | exact List.length_map .. | rfl)) rfl rfl ?_)
 refine g_step rfl (s_val (v_assign rfl) rfl rfl ?_)
 refine g_nil ?_
 refine g_next hK1 ?_
 refine g_seq (fun K2 hK2 => ?_)
 refine g_region ?_
 refine g_step rfl (s_val (v_move rfl) rfl rfl ?_)
 refine g_step rfl (s_val (v_assign rfl) rfl rfl ?_)
 refine g_step rfl (s_val (v_assign rfl) rfl rfl ?_)
 refine g_nil ?_
 refine g_next hK2 ?_
 refine g_seq (fun K3 hK3 => ?_)
 refine g_block ?_
 first | refine g_keep [0, 1, 6, 7, 8] [] [] (keep_cons rfl (keep_cons rfl (keep_cons rfl (keep_cons rfl (keep_cons rfl keep_nil))))) lkeep_nil keep_nil rfl ?_ | refine g_keep [0, 1, 6, 7, 8] [] [] rfl rfl rfl rfl ?_
 refine g_loop (fun n env L B G => ∃ (i j : Nat), n = j - i ∧ i ≤ j ∧ j ≤ l.length ∧ env = [(0, va), (1, .int .i64 x), (6, .int .i64 (l.length : Int)), (7, .int .i64 (i : Int)), (8, .int .i64 (j : Int))] ∧ L = [] ∧ B = [] ∧ G = H ∧ (∀ y ∈ l.take i, y < x) ∧ (∀ y ∈ l.drop j, x ≤ y)) l.length ⟨0, l.length, rfl, by omega, Nat.le_refl _, rfl, rfl, rfl, rfl, (fun y hy => by simp at hy), (fun y hy => by simp at hy)⟩ (fun n env L B G hI => ?_)
 obtain ⟨i, j, rfl, hij, hjl, rfl, rfl, rfl, rfl, hlo, hhi⟩ := hI
 refine g_seq (fun K4 hK4 => ?_)
 refine g_seq (fun K5 hK5 => ?_)
 refine g_region ?_
 refine g_step rfl (s_val (v_move rfl) rfl rfl ?_)
 refine g_step rfl (s_val (v_move rfl) rfl rfl ?_)
 refine g_step rfl (s_val (v_lss rfl rfl) rfl rfl ?_)
 refine g_nil ?_
 refine g_next hK5 ?_
 refine g_cond rfl (fun hc15 => ?_) (fun hc15 => ?_)
 ·
  try simp only [decide_eq_true_eq, decide_eq_false_iff_not, Bool.not_eq_true', Bool.not_eq_false', Bool.not_eq_eq_eq_not, Bool.not_true, Bool.not_false, Bool.and_eq_true, Bool.or_eq_true, Bool.or_eq_false_iff, beq_iff_eq, beq_eq_false_iff_ne, ne_eq, Int.not_lt, Int.not_le, Decidable.not_not] at hc15
  obtain ⟨z, hz⟩ := get_some (l := l) (k := (i + j) / 2) (by omega)
  refine g_skip ?_
  refine g_next hK4 ?_
  refine g_block ?_
  refine g_seq (fun K6 hK6 => ?_)
  refine g_region ?_
  refine g_step rfl (s_val (v_move rfl) rfl rfl ?_)
  refine g_step rfl (s_val (v_move rfl) rfl rfl ?_)
  refine g_step rfl (s_val (v_add rfl rfl (by omega)) rfl rfl ?_)
  refine g_step rfl (s_val (v_conv_int (m := ((i + j : Nat) : Int)) ty3 ty180 rfl (by rw [show (i : Int) + (j : Int) = ((i + j : Nat) : Int) by omega]; exact wrapu64_id (by omega))) rfl rfl ?_)
  refine g_step rfl (s_val (v_shr rfl rfl (by omega)) rfl rfl ?_)
  refine g_step rfl (s_val (v_conv_int (m := (((i + j) / 2 : Nat) : Int)) ty180 ty3 rfl (half_wrap (by omega))) rfl rfl ?_)
  refine g_step rfl (s_val (v_assign rfl) rfl rfl ?_)
  refine g_nil ?_
  refine g_next hK6 ?_
  refine g_seq (fun K7 hK7 => ?_)
  refine g_region ?_
  refine g_step rfl (s_val (v_move rfl) rfl rfl ?_)
  refine g_step rfl (s_val (v_move rfl) rfl rfl ?_)
  refine g_step rfl (s_val (v_indexAddr ty41 ty3 rfl rfl hva rfl (map_get hz) rfl) rfl rfl ?_)
  refine g_step rfl (s_val (by first | exact v_load ty3 rfl rfl hva (map_get hz) rfl | exact v_load_box ty3 rfl rfl (by assumption) rfl) rfl rfl ?_)
  refine g_step rfl (s_val (v_move rfl) rfl rfl ?_)
  refine g_step rfl (s_callp rfl rfl rfl (less_ok z x _) ?_)
  rintro _ rfl
  refine g_nil ?_
  refine g_next hK7 ?_
  refine g_cond rfl (fun hc27 => ?_) (fun hc27 => ?_)
  ·
   try simp only [decide_eq_true_eq, decide_eq_false_iff_not, Bool.not_eq_true', Bool.not_eq_false', Bool.not_eq_eq_eq_not, Bool.not_true, Bool.not_false, Bool.and_eq_true, Bool.or_eq_true, Bool.or_eq_false_iff, beq_iff_eq, beq_eq_false_iff_ne, ne_eq, Int.not_lt, Int.not_le, Decidable.not_not] at hc27
   refine g_region ?_
   refine g_step rfl (s_val (v_move rfl) rfl rfl ?_)
   refine g_step rfl (s_val (v_add rfl rfl (by omega)) rfl rfl ?_)
   refine g_step rfl (s_val (v_assign rfl) rfl rfl ?_)
   refine g_nil ?_
   refine g_block_normal ?_
   first | refine g_keep [0, 1, 6, 7, 8] [] [] (keep_cons rfl (keep_cons rfl (keep_cons rfl (keep_cons rfl (keep_cons rfl keep_nil))))) lkeep_nil keep_nil rfl ?_ | refine g_keep [0, 1, 6, 7, 8] [] [] rfl rfl rfl rfl ?_
   first | exact g_round _ (by omega) ⟨(i + j) / 2 + 1, j, rfl, by omega, hjl, rfl, rfl, rfl, rfl, (fun y hy => by rw [List.take_add_one, hz] at hy; rcases List.mem_append.1 hy with g | g; exact rise_take hs hz hc27 y g; simp at g; omega), hhi⟩ | exact g_round _ (by omega) ⟨i, (i + j) / 2, rfl, by omega, by omega, rfl, rfl, rfl, rfl, hlo, (fun y hy => rise_drop' hs hz (by omega) y hy)⟩
  ·
   try simp only [decide_eq_true_eq, decide_eq_false_iff_not, Bool.not_eq_true', Bool.not_eq_false', Bool.not_eq_eq_eq_not, Bool.not_true, Bool.not_false, Bool.and_eq_true, Bool.or_eq_true, Bool.or_eq_false_iff, beq_iff_eq, beq_eq_false_iff_ne, ne_eq, Int.not_lt, Int.not_le, Decidable.not_not] at hc27
   have hzx : x ≤ z := by simpa using hc27
   refine g_region ?_
   refine g_step rfl (s_val (v_move rfl) rfl rfl ?_)
   refine g_step rfl (s_val (v_assign rfl) rfl rfl ?_)
   refine g_nil ?_
   refine g_block_normal ?_
   first | refine g_keep [0, 1, 6, 7, 8] [] [] (keep_cons rfl (keep_cons rfl (keep_cons rfl (keep_cons rfl (keep_cons rfl keep_nil))))) lkeep_nil keep_nil rfl ?_ | refine g_keep [0, 1, 6, 7, 8] [] [] rfl rfl rfl rfl ?_
   first | exact g_round _ (by omega) ⟨(i + j) / 2 + 1, j, rfl, by omega, hjl, rfl, rfl, rfl, rfl, (fun y hy => by rw [List.take_add_one, hz] at hy; rcases List.mem_append.1 hy with g | g; exact rise_take hs hz hc27 y g; simp at g; omega), hhi⟩ | exact g_round _ (by omega) ⟨i, (i + j) / 2, rfl, by omega, by omega, rfl, rfl, rfl, rfl, hlo, (fun y hy => rise_drop' hs hz (by omega) y hy)⟩
 ·
  try simp only [decide_eq_true_eq, decide_eq_false_iff_not, Bool.not_eq_true', Bool.not_eq_false', Bool.not_eq_eq_eq_not, Bool.not_true, Bool.not_false, Bool.and_eq_true, Bool.or_eq_true, Bool.or_eq_false_iff, beq_iff_eq, beq_eq_false_iff_ne, ne_eq, Int.not_lt, Int.not_le, Decidable.not_not] at hc15
  obtain rfl : i = j := by omega
  have hfd := bs_found hs hlo hhi
  refine g_exit ?_
  refine g_then_exit ?_
  refine g_then_exit ?_
  refine g_block_same ?_
  refine g_next hK3 ?_
  refine g_seq (fun K8 hK8 => ?_)
  refine g_region ?_
  refine g_step rfl (s_val (v_move rfl) rfl rfl ?_)
  refine g_step rfl (s_val (v_move rfl) rfl rfl ?_)
  refine g_step rfl (s_val (v_move rfl) rfl rfl ?_)
  refine g_step rfl (s_val (v_lss rfl rfl) rfl rfl ?_)
  refine g_step rfl (s_val (v_move rfl) rfl rfl ?_)
  refine g_split 35 rfl (fun hg35 => ?_) (fun hg35 => ?_)
  ·
   try simp only [decide_eq_true_eq, decide_eq_false_iff_not, Bool.not_eq_true', Bool.not_eq_false', Bool.not_eq_eq_eq_not, Bool.not_true, Bool.not_false, Bool.and_eq_true, Bool.or_eq_true, Bool.or_eq_false_iff, beq_iff_eq, beq_eq_false_iff_ne, ne_eq, Int.not_lt, Int.not_le, Decidable.not_not] at hg35
   obtain ⟨z, hz⟩ := get_some (l := l) (k := i) (by omega)
   rw [hz] at hfd
   refine g_step_yes (j := 4) (t := 35) rfl rfl rfl rfl (s_val (v_move rfl) rfl rfl ?_)
   refine g_step_yes (j := 4) (t := 35) rfl rfl rfl rfl (s_val (v_move rfl) rfl rfl ?_)
   refine g_step_yes (j := 4) (t := 35) rfl rfl rfl rfl (s_val (v_indexAddr ty41 ty3 rfl rfl hva rfl (map_get hz) rfl) rfl rfl ?_)
   refine g_step_yes (j := 4) (t := 35) rfl rfl rfl rfl (s_val (by first | exact v_load ty3 rfl rfl hva (map_get hz) rfl | exact v_load_box ty3 rfl rfl (by assumption) rfl) rfl rfl ?_)
   refine g_step_yes (j := 4) (t := 35) rfl rfl rfl rfl (s_val (v_move rfl) rfl rfl ?_)
   refine g_step_yes (j := 4) (t := 35) rfl rfl rfl rfl (s_val (v_eql rfl rfl) rfl rfl ?_)
   refine g_step_yes (j := 4) (t := 35) rfl rfl rfl rfl (s_val (v_move rfl) rfl rfl ?_)
   refine g_split 42 rfl (fun hg42 => ?_) (fun hg42 => ?_)
   ·
    try simp only [decide_eq_true_eq, decide_eq_false_iff_not, Bool.not_eq_true', Bool.not_eq_false', Bool.not_eq_eq_eq_not, Bool.not_true, Bool.not_false, Bool.and_eq_true, Bool.or_eq_true, Bool.or_eq_false_iff, beq_iff_eq, beq_eq_false_iff_ne, ne_eq, Int.not_lt, Int.not_le, Decidable.not_not] at hg42
    have hin : decide (x ∈ l) = true := decide_eq_true (hfd.2 (by rw [hg42]))
    refine g_step_no (j := 11) (t := 42) rfl rfl rfl rfl rfl rfl rfl ?_
    refine g_step_no (j := 11) (t := 42) rfl rfl rfl rfl rfl rfl rfl ?_
    refine g_step_no (j := 11) (t := 42) rfl rfl rfl rfl rfl rfl rfl ?_
    refine g_step_no (j := 11) (t := 42) rfl rfl rfl rfl rfl rfl rfl ?_
    refine g_step_no (j := 11) (t := 42) rfl rfl rfl rfl rfl rfl rfl ?_
    refine g_step_no (j := 11) (t := 42) rfl rfl rfl rfl rfl rfl rfl ?_
    refine g_step_und (j := 17) (t := 48) rfl rfl rfl rfl rfl rfl ?_
    refine g_step_und (j := 17) (t := 48) rfl rfl rfl rfl rfl rfl ?_
    refine g_step_no (j := 11) (t := 42) rfl rfl rfl rfl rfl rfl rfl ?_
    refine g_step_yes (j := 4) (t := 35) rfl rfl rfl rfl (s_val (v_pick_t rfl rfl) rfl rfl ?_)
    refine g_step rfl (s_val (v_pick_t rfl rfl) rfl rfl ?_)
    refine g_step rfl (s_val (v_assign rfl) rfl rfl ?_)
    refine g_step rfl (s_val (v_assign rfl) rfl rfl ?_)
    refine g_nil ?_
    refine g_next hK8 ?_
    first | refine g_keep [4, 5] [] [] (keep_cons rfl (keep_cons rfl keep_nil)) lkeep_nil keep_nil rfl ?_ | refine g_keep [4, 5] [] [] rfl rfl rfl rfl ?_
    refine g_ret ?_
    refine g_end2 (.inl rfl) Try.results60 (.tmp rfl) (.tmp rfl) [] (ASub.refl _) (AHeap.sub_refl _) (fun p hp => by cases hp) ⟨rfl, (i : Int), ?_⟩
    first | (rw [hin]; first | rfl | simp [hg42] | simp; done) | (rw [hin]; first | rfl | simp [hg42] | simp; rfl)
   ·
    try simp only [decide_eq_true_eq, decide_eq_false_iff_not, Bool.not_eq_true', Bool.not_eq_false', Bool.not_eq_eq_eq_not, Bool.not_true, Bool.not_false, Bool.and_eq_true, Bool.or_eq_true, Bool.or_eq_false_iff, beq_iff_eq, beq_eq_false_iff_ne, ne_eq, Int.not_lt, Int.not_le, Decidable.not_not] at hg42
    have hin : decide (x ∈ l) = false := decide_eq_false fun h => hg42 (Option.some.inj (hfd.1 h))
    refine g_step_yes (j := 11) (t := 42) rfl rfl rfl rfl (s_val (v_move rfl) rfl rfl ?_)
    refine g_step_yes (j := 11) (t := 42) rfl rfl rfl rfl (s_val (v_move rfl) rfl rfl ?_)
    refine g_step_yes (j := 11) (t := 42) rfl rfl rfl rfl (s_val (v_indexAddr ty41 ty3 rfl rfl hva rfl (map_get hz) rfl) rfl rfl ?_)
    refine g_step_yes (j := 11) (t := 42) rfl rfl rfl rfl (s_val (by first | exact v_load ty3 rfl rfl hva (map_get hz) rfl | exact v_load_box ty3 rfl rfl (by assumption) rfl) rfl rfl ?_)
    refine g_step_yes (j := 11) (t := 42) rfl rfl rfl rfl (s_callp rfl rfl rfl (isNaNs_ok z _) ?_)
    rintro _ rfl
    refine g_step_yes (j := 11) (t := 42) rfl rfl rfl rfl (s_val (v_move rfl) rfl rfl ?_)
    refine g_split 48 rfl (fun hg48 => ?_) (fun hg48 => ?_)
    · exfalso; (try simp only [decide_eq_true_eq, decide_eq_false_iff_not, Bool.not_eq_true', Bool.not_eq_false', Bool.not_eq_eq_eq_not, Bool.not_true, Bool.not_false, Bool.and_eq_true, Bool.or_eq_true, Bool.or_eq_false_iff, beq_iff_eq, beq_eq_false_iff_ne, ne_eq, Int.not_lt, Int.not_le, Decidable.not_not] at hg48); simp at hg48
    ·
     try simp only [decide_eq_true_eq, decide_eq_false_iff_not, Bool.not_eq_true', Bool.not_eq_false', Bool.not_eq_eq_eq_not, Bool.not_true, Bool.not_false, Bool.and_eq_true, Bool.or_eq_true, Bool.or_eq_false_iff, beq_iff_eq, beq_eq_false_iff_ne, ne_eq, Int.not_lt, Int.not_le, Decidable.not_not] at hg48
     refine g_step_no (j := 17) (t := 48) rfl rfl rfl rfl rfl rfl rfl ?_
     refine g_step_no (j := 17) (t := 48) rfl rfl rfl rfl rfl rfl rfl ?_
     refine g_step_yes (j := 11) (t := 42) rfl rfl rfl rfl (s_val (v_pick_f rfl rfl) rfl rfl ?_)
     refine g_step_yes (j := 4) (t := 35) rfl rfl rfl rfl (s_val (v_pick_f rfl rfl) rfl rfl ?_)
     refine g_step rfl (s_val (v_pick_t rfl rfl) rfl rfl ?_)
     refine g_step rfl (s_val (v_assign rfl) rfl rfl ?_)
     refine g_step rfl (s_val (v_assign rfl) rfl rfl ?_)
     refine g_nil ?_
     refine g_next hK8 ?_
     first | refine g_keep [4, 5] [] [] (keep_cons rfl (keep_cons rfl keep_nil)) lkeep_nil keep_nil rfl ?_ | refine g_keep [4, 5] [] [] rfl rfl rfl rfl ?_
     refine g_ret ?_
     refine g_end2 (.inl rfl) Try.results60 (.tmp rfl) (.tmp rfl) [] (ASub.refl _) (AHeap.sub_refl _) (fun p hp => by cases hp) ⟨rfl, (i : Int), ?_⟩
     first | (rw [hin]; first | rfl | simp [hg42] | simp; done) | (rw [hin]; first | rfl | simp [hg42] | simp; rfl)
  ·
   try simp only [decide_eq_true_eq, decide_eq_false_iff_not, Bool.not_eq_true', Bool.not_eq_false', Bool.not_eq_eq_eq_not, Bool.not_true, Bool.not_false, Bool.and_eq_true, Bool.or_eq_true, Bool.or_eq_false_iff, beq_iff_eq, beq_eq_false_iff_ne, ne_eq, Int.not_lt, Int.not_le, Decidable.not_not] at hg35
   have hin : decide (x ∈ l) = false := decide_eq_false fun h => by have h9 := hfd.1 h; rw [List.getElem?_eq_none (by omega)] at h9; cases h9
   refine g_step_no (j := 4) (t := 35) rfl rfl rfl rfl rfl rfl rfl ?_
   refine g_step_no (j := 4) (t := 35) rfl rfl rfl rfl rfl rfl rfl ?_
   refine g_step_no (j := 4) (t := 35) rfl rfl rfl rfl rfl rfl rfl ?_
   refine g_step_no (j := 4) (t := 35) rfl rfl rfl rfl rfl rfl rfl ?_
   refine g_step_no (j := 4) (t := 35) rfl rfl rfl rfl rfl rfl rfl ?_
   refine g_step_no (j := 4) (t := 35) rfl rfl rfl rfl rfl rfl rfl ?_
   refine g_step_no (j := 4) (t := 35) rfl rfl rfl rfl rfl rfl rfl ?_
   refine g_step_und (j := 11) (t := 42) rfl rfl rfl rfl rfl rfl ?_
   refine g_step_und (j := 11) (t := 42) rfl rfl rfl rfl rfl rfl ?_
   refine g_step_und (j := 11) (t := 42) rfl rfl rfl rfl rfl rfl ?_
   refine g_step_und (j := 11) (t := 42) rfl rfl rfl rfl rfl rfl ?_
   refine g_step_und (j := 11) (t := 42) rfl rfl rfl rfl rfl rfl ?_
   refine g_step_und (j := 11) (t := 42) rfl rfl rfl rfl rfl rfl ?_
   refine g_step_und (j := 17) (t := 48) rfl rfl rfl rfl rfl rfl ?_
   refine g_step_und (j := 17) (t := 48) rfl rfl rfl rfl rfl rfl ?_
   refine g_step_und (j := 11) (t := 42) rfl rfl rfl rfl rfl rfl ?_
   refine g_step_no (j := 4) (t := 35) rfl rfl rfl rfl rfl rfl rfl ?_
   refine g_step rfl (s_val (v_pick_f rfl rfl) rfl rfl ?_)
   refine g_step rfl (s_val (v_assign rfl) rfl rfl ?_)
   refine g_step rfl (s_val (v_assign rfl) rfl rfl ?_)
   refine g_nil ?_
   refine g_next hK8 ?_
   first | refine g_keep [4, 5] [] [] (keep_cons rfl (keep_cons rfl keep_nil)) lkeep_nil keep_nil rfl ?_ | refine g_keep [4, 5] [] [] rfl rfl rfl rfl ?_
   refine g_ret ?_
   refine g_end2 (.inl rfl) Try.results60 (.tmp rfl) (.tmp rfl) [] (ASub.refl _) (AHeap.sub_refl _) (fun p hp => by cases hp) ⟨rfl, (i : Int), ?_⟩
   first | (rw [hin]; first | rfl | simp [hg42] | simp; done) | (rw [hin]; first | rfl | simp [hg42] | simp; rfl)

theorem ringAny : True := trivial
theorem clone_ok (l : List Int) (G : AHeap) (va : AV) (hva : va.view G = some (l.map (.int .i64))) (hl : l.length ≤ 1000000) : LCalls Try.prog 67 [va] G noD (fun n v effs => OwnR n 1 v (l.map (.int .i64)) effs) := by
 refine LCalls.intro 8 fi67 rfl Try.ntmps67 rfl (fun _ h => h.elim) (fun H hH w0 hw0 => ?_)
 have hva := view_sub hH hva
 refine g_seq (fun K0 hK0 => ?_)
 refine g_region ?_
 refine g_step rfl (s_val (v_assign rfl) rfl rfl ?_)
 refine g_nil ?_
 refine g_next hK0 ?_
 refine g_seq (fun K1 hK1 => ?_)
 refine g_seq (fun K2 hK2 => ?_)
 refine g_region ?_
 refine g_step rfl (s_val (v_move rfl) rfl rfl ?_)
 refine g_step rfl (s_slnil ty41 rfl rfl hva (fun b hb => ?_))
 refine g_nil ?_
 refine g_next hK2 ?_
 refine g_cond rfl (fun hc4 => ?_) (fun hc4 => ?_)
 ·
  try simp only [decide_eq_true_eq, decide_eq_false_iff_not, Bool.not_eq_true', Bool.not_eq_false', Bool.not_eq_eq_eq_not, Bool.not_true, Bool.not_false, Bool.and_eq_true, Bool.or_eq_true, Bool.or_eq_false_iff, beq_iff_eq, beq_eq_false_iff_ne, ne_eq, Int.not_lt, Int.not_le, Decidable.not_not] at hc4
  refine g_seq (fun K3 hK3 => ?_)
  refine g_region ?_
  refine g_step rfl (s_val (v_assign rfl) rfl rfl ?_)
  refine g_nil ?_
  refine g_next hK3 ?_
  refine g_ret ?_
  refine g_then_ret ?_
  refine g_end1 (.inl rfl) Try.results67 (.tmp rfl) [] (ASub.refl _) (AHeap.sub_refl _) (fun p hp => by cases hp) (by rw [hb hc4]; exact .inl ⟨rfl, rfl, rfl⟩)
 ·
  try simp only [decide_eq_true_eq, decide_eq_false_iff_not, Bool.not_eq_true', Bool.not_eq_false', Bool.not_eq_eq_eq_not, Bool.not_true, Bool.not_false, Bool.and_eq_true, Bool.or_eq_true, Bool.or_eq_false_iff, beq_iff_eq, beq_eq_false_iff_ne, ne_eq, Int.not_lt, Int.not_le, Decidable.not_not] at hc4
  refine g_skip ?_
  refine g_next hK1 ?_
  refine g_seq (fun K4 hK4 => ?_)
  refine g_region ?_
  refine g_step rfl (s_lit0 ty41 ty3 rfl ?_)
  refine g_step rfl (s_val (v_move rfl) rfl rfl ?_)
  refine g_step rfl (s_append (l := []) (m := (l.map (.int .i64))) ty41 ty3 rfl rfl (Own.nil ..) rfl hva (by refine Even.map _ ?_ _; intro _; rfl) (by intro x hx; obtain ⟨_, _, rfl⟩ := List.mem_map.1 hx; rfl) rfl (by simp; omega) (by simp; omega) ?_)
  intro av7 G7 h7
  rw [List.nil_append] at h7
  obtain ⟨e, he1, he2, he3⟩ := h7.effs
  refine g_step rfl (s_val (v_assign rfl) rfl rfl ?_)
  refine g_nil ?_
  refine g_next hK4 ?_
  refine g_ret ?_
  refine g_end1 (.inl rfl) Try.results67 (.tmp rfl) e (ASub.refl _) (by rw [he3]; exact AHeap.sub_refl _) (fun q hq => .inr (he2 q hq)) he1

theorem cpI_ok (r : Nat) (l : List Int) (G : AHeap) (hG : G r = some (.row 1 (l.map (.int .i64)))) (hl : l.length ≤ 1000000) : LCalls Try.prog 92 [.own r 1 0 l.length] G (· = r) (fun n v effs => v = .own r 1 0 (cpt l).length ∧ effs = [(r, .row 1 ((cpt l).map (AV.int .i64) ++ List.replicate (l.length - (cpt l).length) (.int .i64 0)))]) := by
 refine LCalls.intro 61 fi92 rfl Try.ntmps92 rfl (fun b hb => by subst hb; rw [hG]; simp) (fun H hH w0 hw0 => ?_)
 have hG1 := hH _ _ hG
 refine g_seq (fun K0 hK0 => ?_)
 refine g_region ?_
 refine g_step rfl (s_val (v_assign rfl) rfl rfl ?_)
 refine g_nil ?_
 refine g_next hK0 ?_
 refine g_seq (fun K1 hK1 => ?_)
 refine g_seq (fun K2 hK2 => ?_)
 refine g_region ?_
 refine g_step rfl (s_val (v_move rfl) rfl rfl ?_)
 refine g_step rfl (s_val (v_len ty41 rfl (AV.view_own_all hG1 (by simp)) (by simp; rfl)) rfl rfl ?_)
 refine g_step rfl (s_val (v_lss rfl rfl) rfl rfl ?_)
 refine g_nil ?_
 refine g_next hK2 ?_
 refine g_cond rfl (fun hc8 => ?_) (fun hc8 => ?_)
 ·
  try simp only [decide_eq_true_eq, decide_eq_false_iff_not, Bool.not_eq_true', Bool.not_eq_false', Bool.not_eq_eq_eq_not, Bool.not_true, Bool.not_false, Bool.and_eq_true, Bool.or_eq_true, Bool.or_eq_false_iff, beq_iff_eq, beq_eq_false_iff_ne, ne_eq, Int.not_lt, Int.not_le, Decidable.not_not] at hc8
  have hcl : cpt l = l := cpt_short (by omega)
  refine g_seq (fun K3 hK3 => ?_)
  refine g_region ?_
  refine g_step rfl (s_val (v_move rfl) rfl rfl ?_)
  refine g_step rfl (s_val (v_assign rfl) rfl rfl ?_)
  refine g_nil ?_
  refine g_next hK3 ?_
  refine g_ret ?_
  refine g_then_ret ?_
  refine g_end1 (.inl rfl) Try.results92 (.tmp rfl) [(r, .row 1 ((cpt l).map (AV.int .i64) ++ List.replicate (l.length - (cpt l).length) (.int .i64 0)))] (ASub.refl _) (by rw [hcl, Nat.sub_self, List.replicate_zero, List.append_nil]; show AHeap.sub (H.set r _) H; rw [AHeap.set_same _ _ _ hG1]; exact AHeap.sub_refl _) (fun q' hq' => .inl (by simp at hq'; subst hq'; rw [hG]; simp)) ⟨by rw [hcl], rfl⟩
 ·
  try simp only [decide_eq_true_eq, decide_eq_false_iff_not, Bool.not_eq_true', Bool.not_eq_false', Bool.not_eq_eq_eq_not, Bool.not_true, Bool.not_false, Bool.and_eq_true, Bool.or_eq_true, Bool.or_eq_false_iff, beq_iff_eq, beq_eq_false_iff_ne, ne_eq, Int.not_lt, Int.not_le, Decidable.not_not] at hc8
  refine g_skip ?_
  refine g_next hK1 ?_
  refine g_seq (fun K4 hK4 => ?_)
  refine g_seq (fun K5 hK5 => ?_)
  refine g_region ?_
  refine g_step rfl (s_val (v_assign rfl) rfl rfl ?_)
  refine g_nil ?_
  refine g_next hK5 ?_
  refine g_block ?_
  first | refine g_keep [0, 3] [] [] (keep_cons rfl (keep_cons rfl keep_nil)) lkeep_nil keep_nil rfl ?_ | refine g_keep [0, 3] [] [] rfl rfl rfl rfl ?_
  refine g_loop (fun n env L B G => ∃ (k : Nat) , k ≤ l.length ∧ n = l.length - k ∧ env = [(0, .own r 1 0 l.length), (3, .int .i64 (k : Int))] ∧ L = [] ∧ B = [] ∧ H = G ∧ 0 < k ∧ cpt (l.take k) = l.take k) (l.length - 1) ⟨1, (by omega), rfl, rfl, rfl, rfl, rfl, ⟨by omega, cpt_one _⟩⟩ (fun n env L B G hI => ?_)
  obtain ⟨k, hk, rfl, rfl, rfl, rfl, rfl, hk0, hck⟩ := hI
  refine g_seq (fun K6 hK6 => ?_)
  refine g_seq (fun K7 hK7 => ?_)
  refine g_region ?_
  refine g_step rfl (s_val (v_move rfl) rfl rfl ?_)
  refine g_step rfl (s_val (v_move rfl) rfl rfl ?_)
  refine g_step rfl (s_val (v_len ty41 rfl (AV.view_own_all hG1 (by simp)) (by simp; rfl)) rfl rfl ?_)
  refine g_step rfl (s_val (v_lss rfl rfl) rfl rfl ?_)
  refine g_nil ?_
  refine g_next hK7 ?_
  refine g_cond rfl (fun hc13 => ?_) (fun hc13 => ?_)
  ·
   try simp only [decide_eq_true_eq, decide_eq_false_iff_not, Bool.not_eq_true', Bool.not_eq_false', Bool.not_eq_eq_eq_not, Bool.not_true, Bool.not_false, Bool.and_eq_true, Bool.or_eq_true, Bool.or_eq_false_iff, beq_iff_eq, beq_eq_false_iff_ne, ne_eq, Int.not_lt, Int.not_le, Decidable.not_not] at hc13
   obtain ⟨x, hx⟩ := get_some (l := l) (k := k) (by omega)
   obtain ⟨y, hy⟩ := get_some (l := l) (k := k - 1) (by omega)
   have hv1 := AV.view_own_all hG1 (show l.length = (l.map (AV.int .i64)).length by simp)
   refine g_skip ?_
   refine g_next hK6 ?_
   refine g_seq (fun K8 hK8 => ?_)
   refine g_block ?_
   refine g_seq (fun K9 hK9 => ?_)
   refine g_draw (n := 10) (fun j => !([] : List Nat).contains j) rfl rfl ?_
   refine m_take 0 false rfl rfl (by kernel_rfl) (by kernel_rfl) (by kernel_rfl) (fun _ _ _ _ h => h) (v_move rfl) rfl rfl ?_
   refine m_take 1 false rfl rfl (by kernel_rfl) (by kernel_rfl) (by kernel_rfl) (fun _ _ _ _ h => h) (v_move rfl) rfl rfl ?_
   refine m_take 2 false rfl rfl (by kernel_rfl) (by kernel_rfl) (by kernel_rfl) (fun _ _ _ _ h => h) (v_indexAddr ty41 ty3 rfl rfl hv1 (by first | rfl | exact (rfl : (0 : Int) = ((0 : Nat) : Int)) | exact (Int.toNat_of_nonneg (by omega)).symm) (map_get hx) rfl) rfl rfl ?_
   refine m_take 3 true rfl rfl (by kernel_rfl) (by kernel_rfl) (by kernel_rfl) (fun _ _ _ _ h => h) (by first | exact v_load ty3 rfl rfl hv1 (map_get hx) rfl | exact v_load_box ty3 rfl rfl (by assumption) rfl) rfl rfl ?_
   refine m_take 4 false rfl rfl (by kernel_rfl) (by kernel_rfl) (by kernel_rfl) (fun _ _ _ _ h => h) (v_move rfl) rfl rfl ?_
   refine m_take 5 false rfl rfl (by kernel_rfl) (by kernel_rfl) (by kernel_rfl) (fun _ _ _ _ h => h) (v_move rfl) rfl rfl ?_
   refine m_take 6 false rfl rfl (by kernel_rfl) (by kernel_rfl) (by kernel_rfl) (fun _ _ _ _ h => h) (v_sub_ rfl rfl (by omega)) rfl rfl ?_
   refine m_take 7 false rfl rfl (by kernel_rfl) (by kernel_rfl) (by kernel_rfl) (fun _ _ _ _ h => h) (v_indexAddr ty41 ty3 rfl rfl hv1 (by omega) (map_get hy) rfl) rfl rfl ?_
   refine m_take 8 true rfl rfl (by kernel_rfl) (by kernel_rfl) (by kernel_rfl) (fun _ _ _ _ h => h) (by first | exact v_load ty3 rfl rfl hv1 (map_get hy) rfl | exact v_load_box ty3 rfl rfl (by assumption) rfl) rfl rfl ?_
   refine m_take 9 false rfl rfl (by kernel_rfl) (by kernel_rfl) (by kernel_rfl) (fun _ _ _ _ h => h) (v_eql rfl rfl) rfl rfl ?_
   refine m_done (by kernel_rfl) ?_
   refine g_next hK9 ?_
   refine g_cond rfl (fun hc25 => ?_) (fun hc25 => ?_)
   ·
    try simp only [decide_eq_true_eq, decide_eq_false_iff_not, Bool.not_eq_true', Bool.not_eq_false', Bool.not_eq_eq_eq_not, Bool.not_true, Bool.not_false, Bool.and_eq_true, Bool.or_eq_true, Bool.or_eq_false_iff, beq_iff_eq, beq_eq_false_iff_ne, ne_eq, Int.not_lt, Int.not_le, Decidable.not_not] at hc25
    refine g_seq (fun K10 hK10 => ?_)
    refine g_region ?_
    refine g_step rfl (s_val (v_move rfl) rfl rfl ?_)
    refine g_step rfl (s_val (v_move rfl) rfl rfl ?_)
    refine g_step rfl (s_val (v_slice_own (lo := k) (hi := l.length) ty41 ty3 rfl rfl rfl rfl rfl (by omega) (by omega) (.inr (by omega))) rfl rfl ?_)
    refine g_step rfl (s_val (v_assign rfl) rfl rfl ?_)
    refine g_nil ?_
    refine g_next hK10 ?_
    refine g_seq (fun K11 hK11 => ?_)
    refine g_seq (fun K12 hK12 => ?_)
    refine g_region ?_
    refine g_step rfl (s_val (v_assign rfl) rfl rfl ?_)
    refine g_nil ?_
    refine g_next hK12 ?_
    refine g_block ?_
    first | refine g_keep [0, 3, 4, 5] [] [] (keep_cons rfl (keep_cons rfl (keep_cons rfl (keep_cons rfl keep_nil)))) lkeep_nil keep_nil rfl ?_ | refine g_keep [0, 3, 4, 5] [] [] rfl rfl rfl rfl ?_
    refine g_loop (fun n env L B G => ∃ (k2 i : Nat) (R : List Int), n = l.length - k - k2 ∧ 0 < k2 ∧ k + k2 ≤ l.length ∧ i < k + k2 ∧ env = [(0, .own r 1 0 l.length), (3, .int .i64 (i : Int)), (4, .own r 1 (0 + k) (l.length - k)), (5, .int .i64 (k2 : Int))] ∧ L = [] ∧ B = [] ∧ G = H.set r (.row 1 (R.map (AV.int .i64))) ∧ R.length = l.length ∧ R.take i = cpt (l.take (k + k2)) ∧ R.drop (k + k2 - 1) = l.drop (k + k2 - 1)) (l.length - k - 1) ⟨1, k, l, rfl, by omega, by omega, by omega, rfl, rfl, rfl, (AHeap.set_same _ _ _ hG1).symm, rfl, by rw [cpt_snoc hk0 hx hy, if_pos hc25, hck, List.append_nil], rfl⟩ (fun n env L B G hI => ?_)
    obtain ⟨k2, i, R, rfl, hk20, hkl, hik, rfl, rfl, rfl, rfl, hRl, hRt, hRd⟩ := hI
    refine g_seq (fun K13 hK13 => ?_)
    refine g_seq (fun K14 hK14 => ?_)
    refine g_region ?_
    refine g_step rfl (s_val (v_move rfl) rfl rfl ?_)
    refine g_step rfl (s_val (v_move rfl) rfl rfl ?_)
    refine g_step rfl (s_val (v_len ty41 rfl (view_part (AHeap.get_set _ _ _) (by omega)) (show _ = l.length - k by rw [List.length_map, List.length_drop, hRl])) rfl rfl ?_)
    refine g_step rfl (s_val (v_lss rfl rfl) rfl rfl ?_)
    refine g_nil ?_
    refine g_next hK14 ?_
    refine g_cond rfl (fun hc32 => ?_) (fun hc32 => ?_)
    ·
     try simp only [decide_eq_true_eq, decide_eq_false_iff_not, Bool.not_eq_true', Bool.not_eq_false', Bool.not_eq_eq_eq_not, Bool.not_true, Bool.not_false, Bool.and_eq_true, Bool.or_eq_true, Bool.or_eq_false_iff, beq_iff_eq, beq_eq_false_iff_ne, ne_eq, Int.not_lt, Int.not_le, Decidable.not_not] at hc32
     have hlk : k + k2 < l.length := by omega
     obtain ⟨u, hu⟩ := get_some (l := l) (k := k + k2) hlk
     obtain ⟨w, hw⟩ := get_some (l := l) (k := k + k2 - 1) (by omega)
     have hRu := (get_dropped hRd (show k + k2 - 1 ≤ k + k2 by omega)).trans hu
     have hRw : R[k + (k2 - 1)]? = some w := by rw [show k + (k2 - 1) = k + k2 - 1 by omega]; exact (get_dropped hRd (Nat.le_refl _)).trans hw
     obtain ⟨v0, hv0⟩ := get_some (l := R) (k := i) (by omega)
     have hvA : (AV.own r 1 0 l.length).view (AHeap.set H r (.row 1 (R.map (AV.int .i64)))) = some (R.map (.int .i64)) := AV.view_own_all (AHeap.get_set _ _ _) (by rw [List.length_map, hRl])
     refine g_skip ?_
     refine g_next hK13 ?_
     refine g_seq (fun K15 hK15 => ?_)
     refine g_block ?_
     refine g_seq (fun K16 hK16 => ?_)
     refine g_draw (n := 10) (fun j => !([] : List Nat).contains j) rfl rfl ?_
     refine m_take 0 false rfl rfl (by kernel_rfl) (by kernel_rfl) (by kernel_rfl) (fun _ _ _ _ h => h) (v_move rfl) rfl rfl ?_
     refine m_take 1 false rfl rfl (by kernel_rfl) (by kernel_rfl) (by kernel_rfl) (fun _ _ _ _ h => h) (v_move rfl) rfl rfl ?_
     refine m_take 2 false rfl rfl (by kernel_rfl) (by kernel_rfl) (by kernel_rfl) (fun _ _ _ _ h => h) (v_indexAddr ty41 ty3 rfl rfl (view_part (AHeap.get_set _ _ _) (by omega)) rfl (map_get (i := k2) (x := u) (by rw [List.getElem?_drop]; exact hRu)) rfl) rfl rfl ?_
     refine m_take 3 true rfl rfl (by kernel_rfl) (by kernel_rfl) (by kernel_rfl) (fun _ _ _ _ h => h) (by first | exact v_load ty3 rfl rfl (view_part (AHeap.get_set _ _ _) (by omega)) (map_get (i := k2) (x := u) (by rw [List.getElem?_drop]; exact hRu)) rfl | exact v_load_box ty3 rfl rfl (by assumption) rfl) rfl rfl ?_
     refine m_take 4 false rfl rfl (by kernel_rfl) (by kernel_rfl) (by kernel_rfl) (fun _ _ _ _ h => h) (v_move rfl) rfl rfl ?_
     refine m_take 5 false rfl rfl (by kernel_rfl) (by kernel_rfl) (by kernel_rfl) (fun _ _ _ _ h => h) (v_move rfl) rfl rfl ?_
     refine m_take 6 false rfl rfl (by kernel_rfl) (by kernel_rfl) (by kernel_rfl) (fun _ _ _ _ h => h) (v_sub_ rfl rfl (by omega)) rfl rfl ?_
     refine m_take 7 false rfl rfl (by kernel_rfl) (by kernel_rfl) (by kernel_rfl) (fun _ _ _ _ h => h) (v_indexAddr ty41 ty3 rfl rfl (view_part (AHeap.get_set _ _ _) (by omega)) (by omega) (map_get (i := k2 - 1) (x := w) (by rw [List.getElem?_drop]; exact hRw)) rfl) rfl rfl ?_
     refine m_take 8 true rfl rfl (by kernel_rfl) (by kernel_rfl) (by kernel_rfl) (fun _ _ _ _ h => h) (by first | exact v_load ty3 rfl rfl (view_part (AHeap.get_set _ _ _) (by omega)) (map_get (i := k2 - 1) (x := w) (by rw [List.getElem?_drop]; exact hRw)) rfl | exact v_load_box ty3 rfl rfl (by assumption) rfl) rfl rfl ?_
     refine m_take 9 false rfl rfl (by kernel_rfl) (by kernel_rfl) (by kernel_rfl) (fun _ _ _ _ h => h) (v_neq rfl rfl) rfl rfl ?_
     refine m_done (by kernel_rfl) ?_
     refine g_next hK16 ?_
     refine g_cond rfl (fun hc44 => ?_) (fun hc44 => ?_)
     ·
      try simp only [decide_eq_true_eq, decide_eq_false_iff_not, Bool.not_eq_true', Bool.not_eq_false', Bool.not_eq_eq_eq_not, Bool.not_true, Bool.not_false, Bool.and_eq_true, Bool.or_eq_true, Bool.or_eq_false_iff, beq_iff_eq, beq_eq_false_iff_ne, ne_eq, Int.not_lt, Int.not_le, Decidable.not_not] at hc44
      refine g_seq (fun K17 hK17 => ?_)
      refine g_region ?_
      refine g_step rfl (s_val (v_move rfl) rfl rfl ?_)
      refine g_step rfl (s_val (v_move rfl) rfl rfl ?_)
      refine g_step rfl (s_val (v_move rfl) rfl rfl ?_)
      refine g_step rfl (s_val (v_move rfl) rfl rfl ?_)
      refine g_step rfl (s_val (v_indexAddr ty41 ty3 rfl rfl (view_part (AHeap.get_set _ _ _) (by omega)) rfl (map_get (i := k2) (x := u) (by rw [List.getElem?_drop]; exact hRu)) rfl) rfl rfl ?_)
      refine g_step rfl (s_val (by first | exact v_load ty3 rfl rfl (view_part (AHeap.get_set _ _ _) (by omega)) (map_get (i := k2) (x := u) (by rw [List.getElem?_drop]; exact hRu)) rfl | exact v_load_box ty3 rfl rfl (by assumption) rfl) rfl rfl ?_)
      refine g_step rfl (s_val (v_indexAddr ty41 ty3 rfl rfl hvA rfl (map_get hv0) rfl) rfl rfl ?_)
      refine g_step rfl (s_store_row (k := i) (off := 0) (old := .int .i64 v0) (new := .int .i64 u) ty3 rfl rfl (AHeap.get_set _ _ _) (by rw [Nat.zero_add]; exact map_get hv0) rfl rfl rfl rfl (.inl rfl) ?_)
      rw [AHeap.set_set, Nat.zero_add i, ← List.map_set]
      refine g_nil ?_
      refine g_next hK17 ?_
      first | refine g_keep [0, 3, 4, 5] [] [] (keep_cons rfl (keep_cons rfl (keep_cons rfl (keep_cons rfl keep_nil)))) lkeep_nil keep_nil rfl ?_ | refine g_keep [0, 3, 4, 5] [] [] rfl rfl rfl rfl ?_
      refine g_region ?_
      refine g_step rfl (s_val (v_move rfl) rfl rfl ?_)
      refine g_step rfl (s_val (v_add rfl rfl (by omega)) rfl rfl ?_)
      refine g_step rfl (s_val (v_assign rfl) rfl rfl ?_)
      refine g_nil ?_
      refine g_block_normal ?_
      refine g_next hK15 ?_
      refine g_region ?_
      refine g_step rfl (s_val (v_move rfl) rfl rfl ?_)
      refine g_step rfl (s_val (v_add rfl rfl (by omega)) rfl rfl ?_)
      refine g_step rfl (s_val (v_assign rfl) rfl rfl ?_)
      refine g_nil ?_
      first | refine g_keep [0, 3, 4, 5] [] [] (keep_cons rfl (keep_cons rfl (keep_cons rfl (keep_cons rfl keep_nil)))) lkeep_nil keep_nil rfl ?_ | refine g_keep [0, 3, 4, 5] [] [] rfl rfl rfl rfl ?_
      first | exact g_round _ (by omega) ⟨k2 + 1, i + 1, R.set i u, rfl, by omega, by omega, by omega, rfl, rfl, rfl, rfl, (cp_step hRl hik hlk hRt hRd).1, by rw [(cp_step hRl hik hlk hRt hRd).2.1, show k + (k2 + 1) = (k + k2) + 1 by omega, cpt_snoc (by omega) hu hw, if_neg hc44], (cp_step hRl hik hlk hRt hRd).2.2⟩ | exact g_round _ (by omega) ⟨k2 + 1, i, R, rfl, by omega, by omega, by omega, rfl, rfl, rfl, rfl, hRl, by rw [hRt, show k + (k2 + 1) = (k + k2) + 1 by omega, cpt_snoc (by omega) hu hw, if_pos (by omega), List.append_nil], by have h9 := drop_next hRd; rw [show k + k2 - 1 + 1 = k + k2 by omega] at h9; exact h9⟩
     ·
      try simp only [decide_eq_true_eq, decide_eq_false_iff_not, Bool.not_eq_true', Bool.not_eq_false', Bool.not_eq_eq_eq_not, Bool.not_true, Bool.not_false, Bool.and_eq_true, Bool.or_eq_true, Bool.or_eq_false_iff, beq_iff_eq, beq_eq_false_iff_ne, ne_eq, Int.not_lt, Int.not_le, Decidable.not_not] at hc44
      refine g_skip ?_
      refine g_block_normal ?_
      refine g_next hK15 ?_
      refine g_region ?_
      refine g_step rfl (s_val (v_move rfl) rfl rfl ?_)
      refine g_step rfl (s_val (v_add rfl rfl (by omega)) rfl rfl ?_)
      refine g_step rfl (s_val (v_assign rfl) rfl rfl ?_)
      refine g_nil ?_
      first | refine g_keep [0, 3, 4, 5] [] [] (keep_cons rfl (keep_cons rfl (keep_cons rfl (keep_cons rfl keep_nil)))) lkeep_nil keep_nil rfl ?_ | refine g_keep [0, 3, 4, 5] [] [] rfl rfl rfl rfl ?_
      first | exact g_round _ (by omega) ⟨k2 + 1, i + 1, R.set i u, rfl, by omega, by omega, by omega, rfl, rfl, rfl, rfl, (cp_step hRl hik hlk hRt hRd).1, by rw [(cp_step hRl hik hlk hRt hRd).2.1, show k + (k2 + 1) = (k + k2) + 1 by omega, cpt_snoc (by omega) hu hw, if_neg hc44], (cp_step hRl hik hlk hRt hRd).2.2⟩ | exact g_round _ (by omega) ⟨k2 + 1, i, R, rfl, by omega, by omega, by omega, rfl, rfl, rfl, rfl, hRl, by rw [hRt, show k + (k2 + 1) = (k + k2) + 1 by omega, cpt_snoc (by omega) hu hw, if_pos (by omega), List.append_nil], by have h9 := drop_next hRd; rw [show k + k2 - 1 + 1 = k + k2 by omega] at h9; exact h9⟩
    ·
     try simp only [decide_eq_true_eq, decide_eq_false_iff_not, Bool.not_eq_true', Bool.not_eq_false', Bool.not_eq_eq_eq_not, Bool.not_true, Bool.not_false, Bool.and_eq_true, Bool.or_eq_true, Bool.or_eq_false_iff, beq_iff_eq, beq_eq_false_iff_ne, ne_eq, Int.not_lt, Int.not_le, Decidable.not_not] at hc32
     obtain rfl : k2 = l.length - k := by omega
     rw [show k + (l.length - k) = l.length by omega, List.take_length] at hRt
     have hil : i = (cpt l).length := by rw [← hRt, List.length_take]; omega
     refine g_exit ?_
     refine g_then_exit ?_
     refine g_then_exit ?_
     refine g_block_same ?_
     refine g_next hK11 ?_
     refine g_seq (fun K18 hK18 => ?_)
     refine g_region ?_
     refine g_step rfl (s_val (v_move rfl) rfl rfl ?_)
     refine g_step rfl (s_val (v_move rfl) rfl rfl ?_)
     refine g_step rfl (s_val (v_slice_own (lo := i) (hi := l.length) ty41 ty3 rfl rfl rfl rfl rfl (by omega) (by omega) (.inr (by omega))) rfl rfl ?_)
     refine g_step rfl (s_clear (o := 0 + i) (n := l.length - i) (l := R.map (AV.int .i64)) (l' := ((cpt l).map (AV.int .i64) ++ List.replicate (l.length - (cpt l).length) (.int .i64 0))) (za := (.int .i64 0)) ty41 ty3 rfl (AHeap.get_set _ _ _) (by simp; omega) rfl rfl rfl rfl (.inl rfl) (by simp only [Nat.zero_add]; rw [← List.map_take, hRt, drop_none (a := R.map (AV.int .i64)) (n := i + (l.length - i)) (by rw [List.length_map]; omega), List.append_nil, hil]) ?_)
     rw [AHeap.set_set]
     refine g_nil ?_
     refine g_next hK18 ?_
     refine g_seq (fun K19 hK19 => ?_)
     refine g_region ?_
     refine g_step rfl (s_val (v_move rfl) rfl rfl ?_)
     refine g_step rfl (s_val (v_move rfl) rfl rfl ?_)
     refine g_step rfl (s_val (v_slice_own (lo := 0) (hi := i) ty41 ty3 rfl rfl rfl rfl rfl (by omega) (by omega) (.inl rfl)) rfl rfl ?_)
     refine g_step rfl (s_val (v_assign rfl) rfl rfl ?_)
     refine g_nil ?_
     refine g_next hK19 ?_
     refine g_ret ?_
     refine g_block_ret ?_
     refine g_then_ret ?_
     refine g_then_ret ?_
     refine g_block_ret ?_
     refine g_then_ret ?_
     refine g_end1 (.inl rfl) Try.results92 (.tmp rfl) [(r, .row 1 ((cpt l).map (AV.int .i64) ++ List.replicate (l.length - (cpt l).length) (.int .i64 0)))] (ASub.refl _) (AHeap.sub_refl _) (fun q' hq' => .inl (by simp at hq'; subst hq'; rw [hG]; simp)) ⟨by rw [hil]; rfl, rfl⟩
   ·
    try simp only [decide_eq_true_eq, decide_eq_false_iff_not, Bool.not_eq_true', Bool.not_eq_false', Bool.not_eq_eq_eq_not, Bool.not_true, Bool.not_false, Bool.and_eq_true, Bool.or_eq_true, Bool.or_eq_false_iff, beq_iff_eq, beq_eq_false_iff_ne, ne_eq, Int.not_lt, Int.not_le, Decidable.not_not] at hc25
    refine g_skip ?_
    refine g_block_normal ?_
    refine g_next hK8 ?_
    refine g_region ?_
    refine g_step rfl (s_val (v_move rfl) rfl rfl ?_)
    refine g_step rfl (s_val (v_add rfl rfl (by omega)) rfl rfl ?_)
    refine g_step rfl (s_val (v_assign rfl) rfl rfl ?_)
    refine g_nil ?_
    first | refine g_keep [0, 3] [] [] (keep_cons rfl (keep_cons rfl keep_nil)) lkeep_nil keep_nil rfl ?_ | refine g_keep [0, 3] [] [] rfl rfl rfl rfl ?_
    exact g_round _ (by omega) ⟨k + 1, by omega, rfl, rfl, rfl, rfl, rfl, ⟨by omega, by rw [cpt_snoc hk0 hx hy, if_neg (by omega), hck, List.take_add_one, hx]; rfl⟩⟩
  ·
   try simp only [decide_eq_true_eq, decide_eq_false_iff_not, Bool.not_eq_true', Bool.not_eq_false', Bool.not_eq_eq_eq_not, Bool.not_true, Bool.not_false, Bool.and_eq_true, Bool.or_eq_true, Bool.or_eq_false_iff, beq_iff_eq, beq_eq_false_iff_ne, ne_eq, Int.not_lt, Int.not_le, Decidable.not_not] at hc13
   obtain rfl : k = l.length := by omega
   rw [List.take_length] at hck
   refine g_exit ?_
   refine g_then_exit ?_
   refine g_then_exit ?_
   refine g_block_same ?_
   refine g_next hK4 ?_
   refine g_seq (fun K20 hK20 => ?_)
   refine g_region ?_
   refine g_step rfl (s_val (v_move rfl) rfl rfl ?_)
   refine g_step rfl (s_val (v_assign rfl) rfl rfl ?_)
   refine g_nil ?_
   refine g_next hK20 ?_
   refine g_ret ?_
   refine g_end1 (.inl rfl) Try.results92 (.tmp rfl) [(r, .row 1 ((cpt l).map (AV.int .i64) ++ List.replicate (l.length - (cpt l).length) (.int .i64 0)))] (ASub.refl _) (by rw [hck, Nat.sub_self, List.replicate_zero, List.append_nil]; show AHeap.sub (H.set r _) H; rw [AHeap.set_same _ _ _ hG1]; exact AHeap.sub_refl _) (fun q' hq' => .inl (by simp at hq'; subst hq'; rw [hG]; simp)) ⟨by rw [hck], rfl⟩

theorem cpNil_ok (G : AHeap) : PCalls Try.prog 92 [.nil0] G (fun v => v = .nil0) := by
 refine LCalls.intro 61 fi92 rfl Try.ntmps92 rfl (fun _ h => h.elim) (fun H hH w0 hw0 => ?_)
 refine g_seq (fun K0 hK0 => ?_)
 refine g_region ?_
 refine g_step rfl (s_val (v_assign rfl) rfl rfl ?_)
 refine g_nil ?_
 refine g_next hK0 ?_
 refine g_seq (fun K1 hK1 => ?_)
 refine g_seq (fun K2 hK2 => ?_)
 refine g_region ?_
 refine g_step rfl (s_val (v_move rfl) rfl rfl ?_)
 refine g_step rfl (s_val (v_len ty41 rfl (by first | rfl | assumption) (by first | exact List.length_map .. | rfl)) rfl rfl ?_)
 refine g_step rfl (s_val (v_lss rfl rfl) rfl rfl ?_)
 refine g_nil ?_
 refine g_next hK2 ?_
 refine g_cond rfl (fun hc8 => ?_) (fun hc8 => ?_)
 ·
  try simp only [decide_eq_true_eq, decide_eq_false_iff_not, Bool.not_eq_true', Bool.not_eq_false', Bool.not_eq_eq_eq_not, Bool.not_true, Bool.not_false, Bool.and_eq_true, Bool.or_eq_true, Bool.or_eq_false_iff, beq_iff_eq, beq_eq_false_iff_ne, ne_eq, Int.not_lt, Int.not_le, Decidable.not_not] at hc8
  refine g_seq (fun K3 hK3 => ?_)
  refine g_region ?_
  refine g_step rfl (s_val (v_move rfl) rfl rfl ?_)
  refine g_step rfl (s_val (v_assign rfl) rfl rfl ?_)
  refine g_nil ?_
  refine g_next hK3 ?_
  refine g_ret ?_
  refine g_then_ret ?_
  refine g_end1 (.inl rfl) Try.results92 (.tmp rfl) [] (ASub.refl _) (AHeap.sub_refl _) (fun p hp => by cases hp) ⟨rfl, ?_⟩
  rfl
 · exfalso; (try simp only [decide_eq_true_eq, decide_eq_false_iff_not, Bool.not_eq_true', Bool.not_eq_false', Bool.not_eq_eq_eq_not, Bool.not_true, Bool.not_false, Bool.and_eq_true, Bool.or_eq_true, Bool.or_eq_false_iff, beq_iff_eq, beq_eq_false_iff_ne, ne_eq, Int.not_lt, Int.not_le, Decidable.not_not] at hc8); exact absurd hc8 (by decide)

theorem ringSet_ok (l : List Int) (G : AHeap) (va : AV) (hva : va.view G = some (l.map (.int .i64))) (hl : l.length ≤ 1000000) : PCalls Try.prog 58 [va] G (fun v => v = .imm ((setOf l).map (.int .i64))) := by
 refine LCalls.intro 10 fi58 rfl Try.ntmps58 rfl (fun _ h => h.elim) (fun H hH w0 hw0 => ?_)
 have hva := view_sub hH hva
 refine g_seq (fun K0 hK0 => ?_)
 refine g_region ?_
 refine g_step rfl (s_val (v_assign rfl) rfl rfl ?_)
 refine g_nil ?_
 refine g_next hK0 ?_
 refine g_seq (fun K1 hK1 => ?_)
 refine g_region ?_
 refine g_step rfl (s_val (v_move rfl) rfl rfl ?_)
 refine g_step rfl (s_call rfl rfl rfl (clone_ok l _ va hva hl) (fun _ h => h.elim) ?_)
 rintro n5 v5 effs5 hn5 hdom5 hR5 hok5
 have hown5 := hR5.own hn5 hdom5
 refine g_step rfl (s_val (v_assign rfl) rfl rfl ?_)
 refine g_nil ?_
 refine g_next hK1 ?_
 refine g_seq (fun K2 hK2 => ?_)
 refine g_region ?_
 refine g_step rfl (s_val (v_move rfl) rfl rfl ?_)
 rcases hown5 with ⟨rfl, h0, e3⟩ | ⟨rr, e1, e2, rfl, e4⟩
 ·
  refine g_step rfl (s_callp rfl rfl rfl (sortNil_ok _) ?_)
  rintro _ rfl
  refine g_nil ?_
  refine g_next hK2 ?_
  refine g_seq (fun K3 hK3 => ?_)
  refine g_region ?_
  refine g_step rfl (s_val (v_move rfl) rfl rfl ?_)
  refine g_step rfl (s_callp rfl rfl rfl (cpNil_ok _) ?_)
  rintro _ rfl
  have hl0 : l = [] := List.map_eq_nil_iff.1 h0
  refine g_sub 9 rfl ASub.nil0 ?_
  refine g_forget (G' := H) (by rw [e3]; exact AHeap.sub_refl _) ?_
  rw [show ([] : List AV) = (setOf l).map (.int .i64) by rw [hl0]; simp [setOf, cpt]]
  refine g_step rfl (s_val (v_assign rfl) rfl rfl ?_)
  refine g_nil ?_
  refine g_next hK3 ?_
  refine g_ret ?_
  refine g_end1 (.inl rfl) Try.results58 (.tmp rfl) [] (ASub.refl _) (AHeap.sub_refl _) (fun p hp => by cases hp) ⟨rfl, ?_⟩
  rfl
 ·
  rw [List.length_map]
  rw [e4]
  refine g_step rfl (s_call rfl rfl rfl (sortInts_ok rr l _ (AHeap.get_set _ _ _) (by omega)) (fun b hb => .inr (by subst hb; exact e2)) ?_)
  rintro n6 _ effs6 hn6 hdom6 ⟨rfl, rfl⟩ hok6
  rw [← List.length_mergeSort (le := fun x y : Int => decide (x ≤ y)) l]
  refine g_nil ?_
  refine g_next hK2 ?_
  refine g_seq (fun K4 hK4 => ?_)
  refine g_region ?_
  refine g_step rfl (s_val (v_move rfl) rfl rfl ?_)
  refine g_step rfl (s_call rfl rfl rfl (cpI_ok rr (l.mergeSort fun x y => decide (x ≤ y)) _ (AHeap.get_set _ _ _) (by rw [List.length_mergeSort]; omega)) (fun b hb => .inr (by subst hb; exact e2)) ?_)
  rintro n7 _ effs7 hn7 hdom7 ⟨rfl, rfl⟩ hok7
  refine g_freezeG (H := H) (m := (setOf l).map (.int .i64)) 9 rfl (AHeap.get_set _ _ _) (sub_set_free _ (sub_set_free _ (sub_set_free _ (AHeap.sub_refl _) e1) e1) e1) e1 (by simp) (by rw [List.drop_zero, List.take_left' (by rw [List.length_map])]; rfl) ?_
  refine g_step rfl (s_val (v_assign rfl) rfl rfl ?_)
  refine g_nil ?_
  refine g_next hK4 ?_
  refine g_ret ?_
  refine g_end1 (.inl rfl) Try.results58 (.tmp rfl) [] (ASub.refl _) (AHeap.sub_refl _) (fun p hp => by cases hp) ⟨rfl, ?_⟩
  rfl

theorem insIV_ok (q i : Nat) (l : List Int) (x zi : Int) (va : AV) (G : AHeap) (hzi : zi = (i : Int)) (hw : SV G 1 va (l.map (.int .i64))) (hq : G q = some (.row 1 ([x].map (.int .i64)))) (hne : ∀ n, va ≠ .own q 1 0 n) (hi : i ≤ l.length) (hb : l.length ≤ 100000) :
    LCalls Try.prog 63 [va, .int .i64 zi, .own q 1 0 1] G (fun c => ∃ n, va = .own c 1 0 n) (fun n v effs => ∃ p, ((∃ k, va = .own p 1 0 k) ∨ n ≤ p) ∧ v = .own p 1 0 (l.length + 1) ∧ effs = [(p, .row 1 ((l.take i ++ [x] ++ l.drop i).map (.int .i64)))]) := by
  rcases hw with ⟨rfl, h0⟩ | ⟨r, rfl, hr⟩
  · obtain rfl : l = [] := List.map_eq_nil_iff.1 h0
    obtain rfl : i = 0 := by simpa using hi
    subst hzi
    refine (LCalls.weakD (insINil_ok q [x] G hq (by simp) (by simp)) (fun _ h => h.elim) (fun b ⟨n, h⟩ => by cases h)).mono fun n v effs h => ?_
    rcases h with ⟨_, h1, _⟩ | ⟨p, h1, h2, h3⟩
    · simp at h1
    · exact ⟨p, .inr h1, by simpa using h2, by simpa using h3⟩
  · rw [List.length_map] at hne ⊢
    refine (LCalls.weakD (insI_ok r q i l [x] zi G hzi hr hq (fun e => hne _ (by rw [e])) hi (by simp) (by simp; omega)) (fun b hb => ⟨_, by rw [hb]⟩) (fun b ⟨n, h⟩ => by cases h; rw [hr]; simp)).mono fun n v effs ⟨p, h1, h2, h3⟩ => ⟨p, h1.imp (fun h => ⟨l.length, by rw [h]⟩) id, by simpa using h2, h3⟩
theorem delfIV_ok (l : List Int) (f : Nat) (caps : List AV) (p : Int → Bool) (va : AV) (G : AHeap) (hw : SV G 1 va (l.map (.int .i64))) (hl : l.length ≤ 100000) (hcall : ∀ x ∈ l, ∀ r, (∃ n, va = .own r 1 0 n) → ∀ H', (G.del r).sub H' → PCalls Try.prog f ([.int .i64 x] ++ caps) H' (fun v => v = .bool (p x))) :
    LCalls Try.prog 61 [va, .fn (.func f) caps] G (fun c => ∃ n, va = .own c 1 0 n) (fun n v effs => (va = .nil0 ∧ l = [] ∧ v = .nil0 ∧ effs = []) ∨ ∃ r k, va = .own r 1 0 k ∧ v = .own r 1 0 (l.filter (fun x => !p x)).length ∧ effs = [(r, .row 1 ((l.filter (fun x => !p x)).map (.int .i64) ++ List.replicate (l.length - (l.filter (fun x => !p x)).length) (.int .i64 0)))]) := by
  rcases hw with ⟨rfl, h0⟩ | ⟨r, rfl, hr⟩
  · obtain rfl : l = [] := List.map_eq_nil_iff.1 h0
    exact (LCalls.weakD (delfINil_ok f caps G) (fun _ h => h.elim) (fun b ⟨n, h⟩ => by cases h)).mono fun n v effs h => .inl ⟨rfl, rfl, h.2, h.1⟩
  · rw [List.length_map] at hcall ⊢
    exact (LCalls.weakD (delfI_ok r l f caps p G hr (by omega) (fun x hx => hcall x hx r ⟨_, rfl⟩)) (fun b hb => ⟨_, by rw [hb]⟩) (fun b ⟨n, h⟩ => by cases h; rw [hr]; simp)).mono fun n v effs h => .inr ⟨r, _, rfl, h.1, h.2⟩

end Go.Proofs.Ytobigfbgaiglkaa

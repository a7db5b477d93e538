import Derived.Test.YtobigfbgaiglkaaFacts
import Derived.Test.YtobigfbgaiglkaaPBase
set_option maxHeartbeats 8000000
set_option linter.unusedSimpArgs false
set_option linter.unusedVariables false
set_option maxRecDepth 100000
namespace Go.Proofs.Ytobigfbgaiglkaa
open Go Go.Proofs.Ytobigfbgaiglkaa.AM
theorem ixB_ok (l : List BRow) (f : Nat) (caps : List AV) (p : BRow → Bool) (G : AHeap) (va : AV) (hva : va.view G = some (l.map encB)) (hl : l.length ≤ 1000000) (hcall : ∀ x ∈ l, ∀ H', G.sub H' → PCalls Try.prog f ([encB x] ++ caps) H' (fun v => v = .bool (p x))) : PCalls Try.prog 82 [va, .fn (.func f) caps] G (fun v => v = .int .i64 (fidxZ p l)) := by
 refine LCalls.intro 19 fi82 rfl Try.ntmps82 rfl (fun _ h => h.elim) (fun H hH w0 hw0 => ?_)
 have hva := view_sub hH hva
 refine g_seq (fun K0 hK0 => ?_)
 refine g_region ?_
 refine g_step rfl (s_val (v_assign rfl) rfl rfl ?_)
 refine g_nil ?_
 refine g_next hK0 ?_
 refine g_seq (fun K1 hK1 => ?_)
 refine g_seq (fun K2 hK2 => ?_)
 refine g_region ?_
 refine g_step rfl (s_val (v_move rfl) rfl rfl ?_)
 refine g_step rfl (s_val (v_len ty146 rfl (by first | rfl | assumption) (by first | exact List.length_map .. | rfl)) rfl rfl ?_)
 refine g_step rfl (s_val (v_move rfl) rfl rfl ?_)
 refine g_nil ?_
 refine g_next hK2 ?_
 refine g_block ?_
 first | refine g_keep [0, 1, 7, 8] [] [] (keep_cons rfl (keep_cons rfl (keep_cons rfl (keep_cons rfl keep_nil)))) lkeep_nil keep_nil rfl ?_ | refine g_keep [0, 1, 7, 8] [] [] rfl rfl rfl rfl ?_
 refine g_loop (fun n env L B G => ∃ (k : Nat) , k ≤ l.length ∧ n = l.length - k ∧ env = [(0, va), (1, .fn (.func f) caps), (7, .int .i64 (l.length : Int)), (8, .int .i64 (k : Int))] ∧ L = [] ∧ B = [] ∧ H = G ∧ fidx p (l.drop k) + k = fidx p l) (l.length) ⟨0, Nat.zero_le _, rfl, rfl, rfl, rfl, rfl, rfl⟩ (fun n env L B G hI => ?_)
 obtain ⟨k, hk, rfl, rfl, rfl, rfl, rfl, hc⟩ := hI
 refine g_seq (fun K3 hK3 => ?_)
 refine g_region ?_
 refine g_step rfl (s_val (v_lss rfl rfl) rfl rfl ?_)
 refine g_nil ?_
 refine g_next hK3 ?_
 refine g_seq (fun K4 hK4 => ?_)
 refine g_cond rfl (fun hc9 => ?_) (fun hc9 => ?_)
 ·
  try simp only [decide_eq_true_eq, decide_eq_false_iff_not, Bool.not_eq_true', Bool.not_eq_false', Bool.not_eq_eq_eq_not, Bool.not_true, Bool.not_false, Bool.and_eq_true, Bool.or_eq_true, Bool.or_eq_false_iff, beq_iff_eq, beq_eq_false_iff_ne, ne_eq, Int.not_lt, Int.not_le, Decidable.not_not] at hc9
  obtain ⟨x, hx⟩ := get_some (l := l) (k := k) (by omega)
  refine g_skip ?_
  refine g_next hK4 ?_
  refine g_seq (fun K5 hK5 => ?_)
  refine g_block ?_
  refine g_seq (fun K6 hK6 => ?_)
  refine g_region ?_
  refine g_step rfl (s_val (v_move rfl) rfl rfl ?_)
  refine g_step rfl (s_val (v_assign rfl) rfl rfl ?_)
  refine g_nil ?_
  refine g_next hK6 ?_
  refine g_seq (fun K7 hK7 => ?_)
  refine g_region ?_
  refine g_step rfl (s_val (v_move rfl) rfl rfl ?_)
  refine g_step rfl (s_val (v_move rfl) rfl rfl ?_)
  refine g_step rfl (s_val (v_move rfl) rfl rfl ?_)
  refine g_step rfl (s_val (v_indexAddr ty146 ty144 rfl rfl (by first | rfl | assumption) (by first | rfl | exact (rfl : (0 : Int) = ((0 : Nat) : Int)) | exact (Int.toNat_of_nonneg (by omega)).symm) (by first | assumption | exact map_get (by assumption) | rfl) rfl) rfl rfl ?_)
  refine g_step rfl (s_val (by first | exact v_load_elt ty144 rfl rfl (by first | rfl | assumption) (by first | assumption | exact map_get (by assumption) | rfl) rfl rfl | exact v_load_box_all ty144 rfl rfl (by assumption) rfl rfl | exact v_load_part (cs := [_, _]) ty144 rfl rfl (by first | rfl | assumption) (by first | assumption | exact map_get (by assumption) | rfl) rfl rfl rfl | exact v_load_box_part (cs := [_, _]) ty144 rfl rfl (by assumption) rfl rfl rfl) rfl rfl ?_)
  refine g_step rfl (s_callp rfl rfl rfl (hcall x (mem_get hx) _ hH) ?_)
  rintro _ rfl
  refine g_nil ?_
  refine g_next hK7 ?_
  refine g_cond rfl (fun hc16 => ?_) (fun hc16 => ?_)
  ·
   try simp only [decide_eq_true_eq, decide_eq_false_iff_not, Bool.not_eq_true', Bool.not_eq_false', Bool.not_eq_eq_eq_not, Bool.not_true, Bool.not_false, Bool.and_eq_true, Bool.or_eq_true, Bool.or_eq_false_iff, beq_iff_eq, beq_eq_false_iff_ne, ne_eq, Int.not_lt, Int.not_le, Decidable.not_not] at hc16
   refine g_seq (fun K8 hK8 => ?_)
   refine g_region ?_
   refine g_step rfl (s_val (v_move rfl) rfl rfl ?_)
   refine g_step rfl (s_val (v_assign rfl) rfl rfl ?_)
   refine g_nil ?_
   refine g_next hK8 ?_
   refine g_ret ?_
   refine g_block_ret ?_
   refine g_then_ret ?_
   refine g_then_ret ?_
   refine g_block_ret ?_
   refine g_then_ret ?_
   refine g_end1 (.inl rfl) Try.results82 (.tmp rfl) [] (ASub.refl _) (AHeap.sub_refl _) (fun p hp => by cases hp) ⟨rfl, ?_⟩
   first | (rw [fidxZ, fidx_hit hc hx hc16, if_pos (by omega)]; done) | (rw [fidxZ, fidx_hit hc hx hc16, if_pos (by omega)]; rfl)
  ·
   try simp only [decide_eq_true_eq, decide_eq_false_iff_not, Bool.not_eq_true', Bool.not_eq_false', Bool.not_eq_eq_eq_not, Bool.not_true, Bool.not_false, Bool.and_eq_true, Bool.or_eq_true, Bool.or_eq_false_iff, beq_iff_eq, beq_eq_false_iff_ne, ne_eq, Int.not_lt, Int.not_le, Decidable.not_not] at hc16
   refine g_skip ?_
   refine g_block_normal ?_
   refine g_next hK5 ?_
   refine g_region ?_
   refine g_step rfl (s_val (v_add rfl rfl (by omega)) rfl rfl ?_)
   refine g_step rfl (s_val (v_move rfl) rfl rfl ?_)
   refine g_nil ?_
   first | refine g_keep [0, 1, 7, 8] [] [] (keep_cons rfl (keep_cons rfl (keep_cons rfl (keep_cons rfl keep_nil)))) lkeep_nil keep_nil rfl ?_ | refine g_keep [0, 1, 7, 8] [] [] rfl rfl rfl rfl ?_
   exact g_round _ (by omega) ⟨k + 1, by omega, rfl, rfl, rfl, rfl, rfl, fidx_miss hc hx hc16⟩
 ·
  try simp only [decide_eq_true_eq, decide_eq_false_iff_not, Bool.not_eq_true', Bool.not_eq_false', Bool.not_eq_eq_eq_not, Bool.not_true, Bool.not_false, Bool.and_eq_true, Bool.or_eq_true, Bool.or_eq_false_iff, beq_iff_eq, beq_eq_false_iff_ne, ne_eq, Int.not_lt, Int.not_le, Decidable.not_not] at hc9
  obtain rfl : k = l.length := by omega
  refine g_exit ?_
  refine g_then_exit ?_
  refine g_then_exit ?_
  refine g_block_same ?_
  refine g_next hK1 ?_
  refine g_seq (fun K9 hK9 => ?_)
  refine g_region ?_
  refine g_step rfl (s_val (v_assign rfl) rfl rfl ?_)
  refine g_nil ?_
  refine g_next hK9 ?_
  refine g_ret ?_
  refine g_end1 (.inl rfl) Try.results82 (.tmp rfl) [] (ASub.refl _) (AHeap.sub_refl _) (fun p hp => by cases hp) ⟨rfl, ?_⟩
  first | (rw [fidxZ, fidx_end hc, if_neg (by omega)]; done) | (rw [fidxZ, fidx_end hc, if_neg (by omega)]; rfl)

theorem delfB_ok (r : Nat) (l : List BRow) (f : Nat) (caps : List AV) (p : BRow → Bool) (G : AHeap) (hG : G r = some (.row 2 (l.map encB))) (hl : l.length ≤ 1000000) (hcall : ∀ x ∈ l, ∀ H', (G.del r).sub H' → PCalls Try.prog f ([encB x] ++ caps) H' (fun v => v = .bool (p x))) : LCalls Try.prog 79 [.own r 2 0 l.length, .fn (.func f) caps] G (· = r) (fun n v effs => v = .own r 2 0 (l.filter (fun x => !p x)).length ∧ effs = [(r, .row 2 ((l.filter (fun x => !p x)).map encB ++ List.replicate (l.length - (l.filter (fun x => !p x)).length) (.agg [.nil0, .int .i64 0])))]) := by
 refine LCalls.intro 42 fi79 rfl Try.ntmps79 rfl (fun b hb => by subst hb; rw [hG]; simp) (fun H hH w0 hw0 => ?_)
 have hG1 := hH _ _ hG
 refine g_seq (fun K0 hK0 => ?_)
 refine g_region ?_
 refine g_step rfl (s_val (v_assign rfl) rfl rfl ?_)
 refine g_nil ?_
 refine g_next hK0 ?_
 refine g_seq (fun K1 hK1 => ?_)
 refine g_region ?_
 refine g_step rfl (s_val (v_move rfl) rfl rfl ?_)
 refine g_step rfl (s_val (v_move rfl) rfl rfl ?_)
 refine g_step rfl (s_callp rfl rfl rfl (ixB_ok l f caps p _ _ (AV.view_own_all hG1 (by simp)) hl (fun x hx H' h' => hcall x hx H' (AHeap.sub_trans (AHeap.del_sub _ _) (AHeap.sub_trans hH h')))) ?_)
 rintro _ rfl
 refine g_step rfl (s_val (v_assign rfl) rfl rfl ?_)
 refine g_nil ?_
 refine g_next hK1 ?_
 refine g_seq (fun K2 hK2 => ?_)
 refine g_seq (fun K3 hK3 => ?_)
 refine g_region ?_
 refine g_step rfl (s_val (v_move rfl) rfl rfl ?_)
 refine g_step rfl (s_val (v_eql rfl rfl) rfl rfl ?_)
 refine g_nil ?_
 refine g_next hK3 ?_
 refine g_cond rfl (fun hc12 => ?_) (fun hc12 => ?_)
 ·
  try simp only [decide_eq_true_eq, decide_eq_false_iff_not, Bool.not_eq_true', Bool.not_eq_false', Bool.not_eq_eq_eq_not, Bool.not_true, Bool.not_false, Bool.and_eq_true, Bool.or_eq_true, Bool.or_eq_false_iff, beq_iff_eq, beq_eq_false_iff_ne, ne_eq, Int.not_lt, Int.not_le, Decidable.not_not] at hc12
  have hno : fidx p l = l.length := by have := fidx_le p l; unfold fidxZ at hc12; split at hc12 <;> omega
  have hfl := fidx_none p l hno
  refine g_seq (fun K4 hK4 => ?_)
  refine g_region ?_
  refine g_step rfl (s_val (v_move rfl) rfl rfl ?_)
  refine g_step rfl (s_val (v_assign rfl) rfl rfl ?_)
  refine g_nil ?_
  refine g_next hK4 ?_
  refine g_ret ?_
  refine g_then_ret ?_
  refine g_end1 (.inl rfl) Try.results79 (.tmp rfl) [(r, .row 2 ((l.filter (fun x => !p x)).map encB ++ List.replicate (l.length - (l.filter (fun x => !p x)).length) (.agg [.nil0, .int .i64 0])))] (ASub.refl _) (by rw [hfl, Nat.sub_self, List.replicate_zero, List.append_nil]; show AHeap.sub (H.set r _) H; rw [AHeap.set_same _ _ _ hG1]; exact AHeap.sub_refl _) (fun q' hq' => .inl (by simp at hq'; subst hq'; rw [hG]; simp)) ⟨by rw [hfl], rfl⟩
 ·
  try simp only [decide_eq_true_eq, decide_eq_false_iff_not, Bool.not_eq_true', Bool.not_eq_false', Bool.not_eq_eq_eq_not, Bool.not_true, Bool.not_false, Bool.and_eq_true, Bool.or_eq_true, Bool.or_eq_false_iff, beq_iff_eq, beq_eq_false_iff_ne, ne_eq, Int.not_lt, Int.not_le, Decidable.not_not] at hc12
  have hlt : fidx p l < l.length := by unfold fidxZ at hc12; split at hc12 <;> omega
  have hz : fidxZ p l = (fidx p l : Int) := if_pos hlt
  simp only [hz]
  refine g_skip ?_
  refine g_next hK2 ?_
  refine g_seq (fun K5 hK5 => ?_)
  refine g_seq (fun K6 hK6 => ?_)
  refine g_region ?_
  refine g_step rfl (s_val (v_move rfl) rfl rfl ?_)
  refine g_step rfl (s_val (v_add rfl rfl (by omega)) rfl rfl ?_)
  refine g_step rfl (s_val (v_assign rfl) rfl rfl ?_)
  refine g_nil ?_
  refine g_next hK6 ?_
  refine g_block ?_
  first | refine g_keep [0, 1, 5, 6] [] [] (keep_cons rfl (keep_cons rfl (keep_cons rfl (keep_cons rfl keep_nil)))) lkeep_nil keep_nil rfl ?_ | refine g_keep [0, 1, 5, 6] [] [] rfl rfl rfl rfl ?_
  refine g_loop (fun n env L B G => ∃ (j : Nat) (i : Nat) (R : List BRow), j ≤ l.length ∧ n = l.length - j ∧ env = [(0, .own r 2 0 l.length), (1, .fn (.func f) caps), (5, .int .i64 (i : Int)), (6, .int .i64 (j : Int))] ∧ L = [] ∧ B = [] ∧ G = H.set r (.row 2 (R.map encB)) ∧ R.length = l.length ∧ i < j ∧ R.take i = (l.take j).filter (fun x => !p x) ∧ R.drop j = l.drop j) (l.length - (fidx p l + 1)) ⟨(fidx p l + 1), fidx p l, l, (by omega), rfl, rfl, rfl, rfl, (AHeap.set_same _ _ _ hG1).symm, ⟨rfl, by omega, (fidx_keep p l).symm, rfl⟩⟩ (fun n env L B G hI => ?_)
  obtain ⟨j, i, R, hj, rfl, rfl, rfl, rfl, rfl, hRl, hij, hRt, hRd⟩ := hI
  refine g_seq (fun K7 hK7 => ?_)
  refine g_seq (fun K8 hK8 => ?_)
  refine g_region ?_
  refine g_step rfl (s_val (v_move rfl) rfl rfl ?_)
  refine g_step rfl (s_val (v_move rfl) rfl rfl ?_)
  refine g_step rfl (s_val (v_len ty146 rfl (AV.view_own_all (AHeap.get_set _ _ _) (by rw [List.length_map, hRl])) (by rw [List.length_map, hRl])) rfl rfl ?_)
  refine g_step rfl (s_val (v_lss rfl rfl) rfl rfl ?_)
  refine g_nil ?_
  refine g_next hK8 ?_
  refine g_cond rfl (fun hc19 => ?_) (fun hc19 => ?_)
  ·
   try simp only [decide_eq_true_eq, decide_eq_false_iff_not, Bool.not_eq_true', Bool.not_eq_false', Bool.not_eq_eq_eq_not, Bool.not_true, Bool.not_false, Bool.and_eq_true, Bool.or_eq_true, Bool.or_eq_false_iff, beq_iff_eq, beq_eq_false_iff_ne, ne_eq, Int.not_lt, Int.not_le, Decidable.not_not] at hc19
   obtain ⟨x, hx⟩ := get_some (l := l) (k := j) (by omega)
   have hRx : R[j]? = some x := (get_of_drop hRd).trans hx
   obtain ⟨y, hy⟩ := get_some (l := R) (k := i) (by omega)
   have hvR : (AV.own r 2 0 l.length).view (AHeap.set H r (.row 2 (R.map encB))) = some (R.map encB) := AV.view_own_all (AHeap.get_set _ _ _) (by rw [List.length_map, hRl])
   refine g_skip ?_
   refine g_next hK7 ?_
   refine g_seq (fun K9 hK9 => ?_)
   refine g_block ?_
   refine g_seq (fun K10 hK10 => ?_)
   refine g_region ?_
   refine g_step rfl (s_val (v_move rfl) rfl rfl ?_)
   refine g_step rfl (s_val (v_move rfl) rfl rfl ?_)
   refine g_step rfl (s_val (v_indexAddr ty146 ty144 rfl rfl hvR (by first | rfl | exact (rfl : (0 : Int) = ((0 : Nat) : Int)) | exact (Int.toNat_of_nonneg (by omega)).symm) (map_get hRx) rfl) rfl rfl ?_)
   refine g_step rfl (s_val (by first | exact v_load_elt ty144 rfl rfl hvR (map_get hRx) rfl rfl | exact v_load_box_all ty144 rfl rfl (by assumption) rfl rfl | exact v_load_part (cs := [_, _]) ty144 rfl rfl hvR (map_get hRx) rfl rfl rfl | exact v_load_box_part (cs := [_, _]) ty144 rfl rfl (by assumption) rfl rfl rfl) rfl rfl ?_)
   refine g_step rfl (s_alloc (av := (.agg [.nil0, (.int .i64 0)])) ty144 rfl rfl rfl rfl ?_)
   refine g_step rfl (s_store_all ty144 rfl rfl rfl rfl rfl rfl ?_)
   refine g_nil ?_
   refine g_next hK10 ?_
   refine g_seq (fun K11 hK11 => ?_)
   refine g_region ?_
   refine g_step rfl (s_val (v_move rfl) rfl rfl ?_)
   refine g_step rfl (s_val (by first | exact v_loadl_all ty144 rfl rfl rfl rfl rfl | exact v_loadl_part (cs := [_, _]) ty144 rfl rfl rfl rfl rfl rfl) rfl rfl ?_)
   refine g_step rfl (s_callp rfl rfl rfl (hcall x (mem_get hx) _ (fun b y hb => by by_cases e : b = r <;> simp [AHeap.del, AHeap.set, e] at hb ⊢; exact hH _ _ hb)) ?_)
   rintro _ rfl
   refine g_step rfl (s_val (v_not rfl) rfl rfl ?_)
   refine g_nil ?_
   refine g_next hK11 ?_
   refine g_cond rfl (fun hc29 => ?_) (fun hc29 => ?_)
   ·
    try simp only [decide_eq_true_eq, decide_eq_false_iff_not, Bool.not_eq_true', Bool.not_eq_false', Bool.not_eq_eq_eq_not, Bool.not_true, Bool.not_false, Bool.and_eq_true, Bool.or_eq_true, Bool.or_eq_false_iff, beq_iff_eq, beq_eq_false_iff_ne, ne_eq, Int.not_lt, Int.not_le, Decidable.not_not] at hc29
    refine g_seq (fun K12 hK12 => ?_)
    refine g_region ?_
    refine g_step rfl (s_val (v_move rfl) rfl rfl ?_)
    refine g_step rfl (s_val (v_move rfl) rfl rfl ?_)
    refine g_step rfl (s_val (by first | exact v_loadl_all ty144 rfl rfl rfl rfl rfl | exact v_loadl_part (cs := [_, _]) ty144 rfl rfl rfl rfl rfl rfl) rfl rfl ?_)
    refine g_step rfl (s_val (v_indexAddr ty146 ty144 rfl rfl hvR (by first | rfl | exact (rfl : (0 : Int) = ((0 : Nat) : Int)) | exact (Int.toNat_of_nonneg (by omega)).symm) (map_get hy) rfl) rfl rfl ?_)
    refine g_step rfl (s_store_row (k := i) (off := 0) (old := encB y) (new := encB x) ty144 rfl rfl (AHeap.get_set _ _ _) (by rw [Nat.zero_add]; exact map_get hy) rfl rfl rfl rfl (.inl rfl) ?_)
    rw [AHeap.set_set, Nat.zero_add, ← List.map_set]
    refine g_nil ?_
    refine g_next hK12 ?_
    refine g_region ?_
    refine g_step rfl (s_val (v_move rfl) rfl rfl ?_)
    refine g_step rfl (s_val (v_add rfl rfl (by omega)) rfl rfl ?_)
    refine g_step rfl (s_val (v_assign rfl) rfl rfl ?_)
    refine g_nil ?_
    refine g_block_normal ?_
    refine g_next hK9 ?_
    refine g_region ?_
    refine g_step rfl (s_val (v_move rfl) rfl rfl ?_)
    refine g_step rfl (s_val (v_add rfl rfl (by omega)) rfl rfl ?_)
    refine g_step rfl (s_val (v_assign rfl) rfl rfl ?_)
    refine g_nil ?_
    first | refine g_keep [0, 1, 5, 6] [] [] (keep_cons rfl (keep_cons rfl (keep_cons rfl (keep_cons rfl keep_nil)))) lkeep_nil keep_nil rfl ?_ | refine g_keep [0, 1, 5, 6] [] [] rfl rfl rfl rfl ?_
    first | exact g_round _ (by omega) ⟨j + 1, i + 1, R.set i x, by omega, rfl, rfl, rfl, rfl, rfl, by have h4 := keep_step (x := x) hRl hij (by omega) hRt hRd; rw [filter_snoc hx, if_pos (by simpa using hc29)]; exact h4⟩ | exact g_round _ (by omega) ⟨j + 1, i, R, by omega, rfl, rfl, rfl, rfl, rfl, ⟨hRl, by omega, by rw [filter_snoc hx, if_neg (by simpa using hc29), List.append_nil]; exact hRt, keep_skip hRd⟩⟩
   ·
    try simp only [decide_eq_true_eq, decide_eq_false_iff_not, Bool.not_eq_true', Bool.not_eq_false', Bool.not_eq_eq_eq_not, Bool.not_true, Bool.not_false, Bool.and_eq_true, Bool.or_eq_true, Bool.or_eq_false_iff, beq_iff_eq, beq_eq_false_iff_ne, ne_eq, Int.not_lt, Int.not_le, Decidable.not_not] at hc29
    refine g_skip ?_
    refine g_block_normal ?_
    refine g_next hK9 ?_
    refine g_region ?_
    refine g_step rfl (s_val (v_move rfl) rfl rfl ?_)
    refine g_step rfl (s_val (v_add rfl rfl (by omega)) rfl rfl ?_)
    refine g_step rfl (s_val (v_assign rfl) rfl rfl ?_)
    refine g_nil ?_
    first | refine g_keep [0, 1, 5, 6] [] [] (keep_cons rfl (keep_cons rfl (keep_cons rfl (keep_cons rfl keep_nil)))) lkeep_nil keep_nil rfl ?_ | refine g_keep [0, 1, 5, 6] [] [] rfl rfl rfl rfl ?_
    first | exact g_round _ (by omega) ⟨j + 1, i + 1, R.set i x, by omega, rfl, rfl, rfl, rfl, rfl, by have h4 := keep_step (x := x) hRl hij (by omega) hRt hRd; rw [filter_snoc hx, if_pos (by simpa using hc29)]; exact h4⟩ | exact g_round _ (by omega) ⟨j + 1, i, R, by omega, rfl, rfl, rfl, rfl, rfl, ⟨hRl, by omega, by rw [filter_snoc hx, if_neg (by simpa using hc29), List.append_nil]; exact hRt, keep_skip hRd⟩⟩
  ·
   try simp only [decide_eq_true_eq, decide_eq_false_iff_not, Bool.not_eq_true', Bool.not_eq_false', Bool.not_eq_eq_eq_not, Bool.not_true, Bool.not_false, Bool.and_eq_true, Bool.or_eq_true, Bool.or_eq_false_iff, beq_iff_eq, beq_eq_false_iff_ne, ne_eq, Int.not_lt, Int.not_le, Decidable.not_not] at hc19
   obtain rfl : j = l.length := by omega
   rw [List.take_length] at hRt
   have hil : i = (l.filter (fun x => !p x)).length := by rw [← hRt, List.length_take]; omega
   refine g_exit ?_
   refine g_then_exit ?_
   refine g_then_exit ?_
   refine g_block_same ?_
   refine g_next hK5 ?_
   refine g_seq (fun K13 hK13 => ?_)
   refine g_region ?_
   refine g_step rfl (s_val (v_move rfl) rfl rfl ?_)
   refine g_step rfl (s_val (v_move rfl) rfl rfl ?_)
   refine g_step rfl (s_val (v_slice_own (lo := i) (hi := l.length) ty146 ty144 rfl rfl rfl rfl rfl (by omega) (by omega) (.inr hij)) rfl rfl ?_)
   refine g_step rfl (s_clear (o := 0 + i) (n := l.length - i) (l := R.map encB) (l' := ((l.filter (fun x => !p x)).map encB ++ List.replicate (l.length - (l.filter (fun x => !p x)).length) (.agg [.nil0, .int .i64 0]))) (za := (.agg [.nil0, .int .i64 0])) ty146 ty144 rfl (AHeap.get_set _ _ _) (by simp; omega) rfl rfl rfl rfl (.inl rfl) (by simp only [Nat.zero_add]; rw [← List.map_take, hRt, drop_none (a := R.map encB) (n := i + (l.length - i)) (by rw [List.length_map]; omega), List.append_nil, hil]) ?_)
   rw [AHeap.set_set]
   refine g_nil ?_
   refine g_next hK13 ?_
   refine g_seq (fun K14 hK14 => ?_)
   refine g_region ?_
   refine g_step rfl (s_val (v_move rfl) rfl rfl ?_)
   refine g_step rfl (s_val (v_move rfl) rfl rfl ?_)
   refine g_step rfl (s_val (v_slice_own (lo := 0) (hi := i) ty146 ty144 rfl rfl rfl rfl rfl (by omega) (by omega) (.inl rfl)) rfl rfl ?_)
   refine g_step rfl (s_val (v_assign rfl) rfl rfl ?_)
   refine g_nil ?_
   refine g_next hK14 ?_
   refine g_ret ?_
   refine g_end1 (.inl rfl) Try.results79 (.tmp rfl) [(r, .row 2 ((l.filter (fun x => !p x)).map encB ++ List.replicate (l.length - (l.filter (fun x => !p x)).length) (.agg [.nil0, .int .i64 0])))] (ASub.refl _) (AHeap.sub_refl _) (fun q' hq' => .inl (by simp at hq'; subst hq'; rw [hG]; simp)) ⟨by rw [hil]; rfl, rfl⟩

theorem delfBNil_ok (f : Nat) (caps : List AV) (G : AHeap) : PCalls Try.prog 79 [.nil0, .fn (.func f) caps] G (fun v => v = .nil0) := by
 refine LCalls.intro 42 fi79 rfl Try.ntmps79 rfl (fun _ h => h.elim) (fun H hH w0 hw0 => ?_)
 refine g_seq (fun K0 hK0 => ?_)
 refine g_region ?_
 refine g_step rfl (s_val (v_assign rfl) rfl rfl ?_)
 refine g_nil ?_
 refine g_next hK0 ?_
 refine g_seq (fun K1 hK1 => ?_)
 refine g_region ?_
 refine g_step rfl (s_val (v_move rfl) rfl rfl ?_)
 refine g_step rfl (s_val (v_move rfl) rfl rfl ?_)
 refine g_step rfl (s_callp rfl rfl rfl (ixB_ok [] f caps (fun _ => false) _ _ rfl (by simp) (fun x hx => by cases hx)) ?_)
 rintro _ rfl
 refine g_step rfl (s_val (v_assign rfl) rfl rfl ?_)
 refine g_nil ?_
 refine g_next hK1 ?_
 refine g_seq (fun K2 hK2 => ?_)
 refine g_seq (fun K3 hK3 => ?_)
 refine g_region ?_
 refine g_step rfl (s_val (v_move rfl) rfl rfl ?_)
 refine g_step rfl (s_val (v_eql rfl rfl) rfl rfl ?_)
 refine g_nil ?_
 refine g_next hK3 ?_
 refine g_cond rfl (fun hc12 => ?_) (fun hc12 => ?_)
 ·
  try simp only [decide_eq_true_eq, decide_eq_false_iff_not, Bool.not_eq_true', Bool.not_eq_false', Bool.not_eq_eq_eq_not, Bool.not_true, Bool.not_false, Bool.and_eq_true, Bool.or_eq_true, Bool.or_eq_false_iff, beq_iff_eq, beq_eq_false_iff_ne, ne_eq, Int.not_lt, Int.not_le, Decidable.not_not] at hc12
  refine g_seq (fun K4 hK4 => ?_)
  refine g_region ?_
  refine g_step rfl (s_val (v_move rfl) rfl rfl ?_)
  refine g_step rfl (s_val (v_assign rfl) rfl rfl ?_)
  refine g_nil ?_
  refine g_next hK4 ?_
  refine g_ret ?_
  refine g_then_ret ?_
  refine g_end1 (.inl rfl) Try.results79 (.tmp rfl) [] (ASub.refl _) (AHeap.sub_refl _) (fun p hp => by cases hp) ⟨rfl, ?_⟩
  rfl
 · exfalso; (try simp only [decide_eq_true_eq, decide_eq_false_iff_not, Bool.not_eq_true', Bool.not_eq_false', Bool.not_eq_eq_eq_not, Bool.not_true, Bool.not_false, Bool.and_eq_true, Bool.or_eq_true, Bool.or_eq_false_iff, beq_iff_eq, beq_eq_false_iff_ne, ne_eq, Int.not_lt, Int.not_le, Decidable.not_not] at hc12); exact hc12 rfl

theorem insB_ok (r q i : Nat) (l m : List BRow) (zi : Int) (G : AHeap) (hzi : zi = (i : Int)) (hG : G r = some (.row 2 (l.map encB))) (hq : G q = some (.row 2 (m.map encB))) (hne : q ≠ r) (hi : i ≤ l.length) (hm : 0 < m.length) (hb : l.length + m.length ≤ 1000000) : LCalls Try.prog 81 [.own r 2 0 l.length, .int .i64 zi, .own q 2 0 m.length] G (· = r) (fun n v effs => ∃ p, (p = r ∨ n ≤ p) ∧ v = .own p 2 0 (l.length + m.length) ∧ effs = [(p, .row 2 ((l.take i ++ m ++ l.drop i).map encB))]) := by
 refine LCalls.intro 95 fi81 rfl Try.ntmps81 rfl (fun b hb => by subst hb; rw [hG]; simp) (fun H hH w0 hw0 => ?_)
 have hG1 := hH _ _ hG
 have hq1 := hH _ _ hq
 refine g_seq (fun K0 hK0 => ?_)
 refine g_region ?_
 refine g_step rfl (s_val (v_assign rfl) rfl rfl ?_)
 refine g_nil ?_
 refine g_next hK0 ?_
 refine g_seq (fun K1 hK1 => ?_)
 refine g_region ?_
 rcases Nat.lt_or_ge i l.length with hil | hil
 ·
  refine g_step rfl (s_val (v_move rfl) rfl rfl ?_)
  refine g_step rfl (s_val (v_move rfl) rfl rfl ?_)
  refine g_step rfl (s_val (v_slice_own (lo := i) (hi := l.length) ty146 ty144 rfl rfl rfl hzi rfl (by omega) (by omega) (.inr hil)) rfl rfl ?_)
  refine g_nil ?_
  refine g_next hK1 ?_
  refine g_seq (fun K2 hK2 => ?_)
  refine g_region ?_
  refine g_step rfl (s_val (v_move rfl) rfl rfl ?_)
  refine g_step rfl (s_val (v_len ty145 rfl (by rw [AV.view_own_all (by first | exact hq1 | (rw [AHeap.get_set_ne _ _ hne]; exact hq1) | (rw [AHeap.get_set_ne _ _ hqp]; exact hq1)) (by simp)]) (by simp; rfl)) rfl rfl ?_)
  refine g_step rfl (s_val (v_assign rfl) rfl rfl ?_)
  refine g_nil ?_
  refine g_next hK2 ?_
  refine g_seq (fun K3 hK3 => ?_)
  refine g_seq (fun K4 hK4 => ?_)
  refine g_region ?_
  refine g_step rfl (s_val (v_move rfl) rfl rfl ?_)
  refine g_step rfl (s_val (v_eql rfl rfl) rfl rfl ?_)
  refine g_nil ?_
  refine g_next hK4 ?_
  refine g_cond rfl (fun hc16 => ?_) (fun hc16 => ?_)
  · exfalso; (try simp only [decide_eq_true_eq, decide_eq_false_iff_not, Bool.not_eq_true', Bool.not_eq_false', Bool.not_eq_eq_eq_not, Bool.not_true, Bool.not_false, Bool.and_eq_true, Bool.or_eq_true, Bool.or_eq_false_iff, beq_iff_eq, beq_eq_false_iff_ne, ne_eq, Int.not_lt, Int.not_le, Decidable.not_not] at hc16); omega
  ·
   try simp only [decide_eq_true_eq, decide_eq_false_iff_not, Bool.not_eq_true', Bool.not_eq_false', Bool.not_eq_eq_eq_not, Bool.not_true, Bool.not_false, Bool.and_eq_true, Bool.or_eq_true, Bool.or_eq_false_iff, beq_iff_eq, beq_eq_false_iff_ne, ne_eq, Int.not_lt, Int.not_le, Decidable.not_not] at hc16
   refine g_skip ?_
   refine g_next hK3 ?_
   refine g_seq (fun K5 hK5 => ?_)
   refine g_region ?_
   refine g_step rfl (s_val (v_move rfl) rfl rfl ?_)
   refine g_step rfl (s_val (v_len ty146 rfl (AV.view_own_all hG1 (by simp)) (by simp; rfl)) rfl rfl ?_)
   refine g_step rfl (s_val (v_assign rfl) rfl rfl ?_)
   refine g_nil ?_
   refine g_next hK5 ?_
   refine g_seq (fun K6 hK6 => ?_)
   refine g_seq (fun K7 hK7 => ?_)
   refine g_region ?_
   refine g_step rfl (s_val (v_move rfl) rfl rfl ?_)
   refine g_step rfl (s_val (v_move rfl) rfl rfl ?_)
   refine g_step rfl (s_val (v_eql rfl rfl) rfl rfl ?_)
   refine g_nil ?_
   refine g_next hK7 ?_
   refine g_cond rfl (fun hc22 => ?_) (fun hc22 => ?_)
   · exfalso; (try simp only [decide_eq_true_eq, decide_eq_false_iff_not, Bool.not_eq_true', Bool.not_eq_false', Bool.not_eq_eq_eq_not, Bool.not_true, Bool.not_false, Bool.and_eq_true, Bool.or_eq_true, Bool.or_eq_false_iff, beq_iff_eq, beq_eq_false_iff_ne, ne_eq, Int.not_lt, Int.not_le, Decidable.not_not] at hc22); omega
   ·
    try simp only [decide_eq_true_eq, decide_eq_false_iff_not, Bool.not_eq_true', Bool.not_eq_false', Bool.not_eq_eq_eq_not, Bool.not_true, Bool.not_false, Bool.and_eq_true, Bool.or_eq_true, Bool.or_eq_false_iff, beq_iff_eq, beq_eq_false_iff_ne, ne_eq, Int.not_lt, Int.not_le, Decidable.not_not] at hc22
    refine g_skip ?_
    refine g_next hK6 ?_
    refine g_seq (fun K8 hK8 => ?_)
    refine g_seq (fun K9 hK9 => ?_)
    refine g_region ?_
    refine g_cap 0 rfl (fun cp hcp => ?_)
    refine g_step rfl (s_val (v_move rfl) rfl rfl ?_)
    refine g_step rfl (s_val (v_move rfl) rfl rfl ?_)
    refine g_step rfl (s_val (v_add rfl rfl (by omega)) rfl rfl ?_)
    refine g_step rfl (s_val (v_move rfl) rfl rfl ?_)
    refine g_step rfl (s_val (v_cap ty146 rfl) rfl rfl ?_)
    refine g_step rfl (s_val (v_gtr rfl rfl) rfl rfl ?_)
    refine g_nil ?_
    refine g_next hK9 ?_
    refine g_cond rfl (fun hc31 => ?_) (fun hc31 => ?_)
    ·
     try simp only [decide_eq_true_eq, decide_eq_false_iff_not, Bool.not_eq_true', Bool.not_eq_false', Bool.not_eq_eq_eq_not, Bool.not_true, Bool.not_false, Bool.and_eq_true, Bool.or_eq_true, Bool.or_eq_false_iff, beq_iff_eq, beq_eq_false_iff_ne, ne_eq, Int.not_lt, Int.not_le, Decidable.not_not] at hc31
     refine g_seq (fun K10 hK10 => ?_)
     refine g_region ?_
     refine g_step rfl (s_val (v_move rfl) rfl rfl ?_)
     refine g_step rfl (s_val (v_move rfl) rfl rfl ?_)
     refine g_step rfl (s_val (v_slice_ownc (lo := 0) (hi := i) ty146 ty144 rfl rfl rfl rfl hzi (by omega) (by omega) (.inl rfl)) rfl rfl ?_)
     refine g_step rfl (s_val (v_move rfl) rfl rfl ?_)
     refine g_step rfl (s_val (v_move rfl) rfl rfl ?_)
     refine g_step rfl (s_val (v_add rfl rfl (by omega)) rfl rfl ?_)
     refine g_step rfl (s_val (v_move rfl) rfl rfl ?_)
     refine g_step rfl (s_val (v_sub_ rfl rfl (by omega)) rfl rfl ?_)
     refine g_step rfl (s_append_zeros (l := (l.map encB)) (k := l.length + m.length - i) (za := (.agg [.nil0, .int .i64 0])) (l' := ((l.take i).map encB ++ List.replicate (l.length + m.length - i) (.agg [.nil0, .int .i64 0]))) ty146 ty3 ty144 rfl rfl hG1 (by simp; omega) (by omega) rfl (by omega) rfl rfl rfl rfl (by omega) (by omega) (by simp [List.map_take]) ?_)
     intro p hp1 hp2
     have hqp : q ≠ p := fun e => by subst e; rw [hq1] at hp1; cases hp1
     have hrp : r ≠ p := fun e => by subst e; rw [hG1] at hp1; cases hp1
     refine g_step rfl (s_val (v_assign rfl) rfl rfl ?_)
     refine g_nil ?_
     refine g_next hK10 ?_
     first | refine g_keep [0, 1, 2, 7, 9] [] [] (keep_cons rfl (keep_cons rfl (keep_cons rfl (keep_cons rfl (keep_cons rfl keep_nil))))) lkeep_nil keep_nil rfl ?_ | refine g_keep [0, 1, 2, 7, 9] [] [] rfl rfl rfl rfl ?_
     refine g_seq (fun K11 hK11 => ?_)
     refine g_region ?_
     refine g_step rfl (s_val (v_move rfl) rfl rfl ?_)
     refine g_step rfl (s_val (v_move rfl) rfl rfl ?_)
     refine g_step rfl (s_val (v_slice_own (lo := i) (hi := (l.length + m.length)) ty146 ty144 rfl rfl rfl hzi (by simp; omega) (by omega) (by simp; omega) (.inr (by simp; omega))) rfl rfl ?_)
     refine g_step rfl (s_val (v_move rfl) rfl rfl ?_)
     refine g_step rfl (s_copy (l := ((l.take i).map encB ++ List.replicate (l.length + m.length - i) (.agg [.nil0, .int .i64 0]))) (m := (m.map encB)) (l' := ((l.take i).map encB ++ m.map encB ++ List.replicate (l.length - i) (.agg [.nil0, .int .i64 0]))) (k := m.length) ty146 ty144 rfl rfl (AHeap.get_set _ _ _) (by simp; omega) rfl (by rw [AV.view_own_all (by first | exact hq1 | (rw [AHeap.get_set_ne _ _ hne]; exact hq1) | (rw [AHeap.get_set_ne _ _ hqp]; exact hq1)) (by simp)]) (by refine Even.map _ ?_ _; intro _; rfl) (by intro x hx; obtain ⟨_, _, rfl⟩ := List.mem_map.1 hx; rfl) (.inr hp2) (by simp; omega) (by simp only [Nat.zero_add]; exact ins_a encB l m (.agg [.nil0, .int .i64 0]) i hi) ?_)
     rw [AHeap.set_set]
     refine g_nil ?_
     refine g_next hK11 ?_
     refine g_seq (fun K12 hK12 => ?_)
     refine g_draw (n := 9) (fun j => !([8] : List Nat).contains j) rfl rfl ?_
     refine m_take 0 false rfl rfl (by kernel_rfl) (by kernel_rfl) (by kernel_rfl) (fun _ _ _ _ h => h) (v_move rfl) rfl rfl ?_
     refine m_take 1 false rfl rfl (by kernel_rfl) (by kernel_rfl) (by kernel_rfl) (fun _ _ _ _ h => h) (v_move rfl) rfl rfl ?_
     refine m_take 2 false rfl rfl (by kernel_rfl) (by kernel_rfl) (by kernel_rfl) (fun _ _ _ _ h => h) (v_move rfl) rfl rfl ?_
     refine m_take 3 false rfl rfl (by kernel_rfl) (by kernel_rfl) (by kernel_rfl) (fun _ _ _ _ h => h) (v_add rfl rfl (by omega)) rfl rfl ?_
     refine m_take 4 false rfl rfl (by kernel_rfl) (by kernel_rfl) (by kernel_rfl) (fun _ _ _ _ h => h) (v_slice_own (lo := (i + m.length)) (hi := (l.length + m.length)) ty146 ty144 rfl rfl rfl (by omega) (by simp; omega) (by omega) (by simp; omega) (.inr (by simp; omega))) rfl rfl ?_
     refine m_take 5 false rfl rfl (by kernel_rfl) (by kernel_rfl) (by kernel_rfl) (fun _ _ _ _ h => h) (v_move rfl) rfl rfl ?_
     refine m_take 6 false rfl rfl (by kernel_rfl) (by kernel_rfl) (by kernel_rfl) (fun _ _ _ _ h => h) (v_move rfl) rfl rfl ?_
     refine m_take 7 false rfl rfl (by kernel_rfl) (by kernel_rfl) (by kernel_rfl) (fun _ _ _ _ h => h) (v_slice_ownc' (lo := i) (hi := l.length) ty146 ty144 rfl rfl rfl hzi rfl (by omega) (by omega) (.inr (by omega))) rfl rfl ?_
     refine m_one 8 (by kernel_rfl) rfl rfl ?_
     refine sm_any rfl (s_copy (l := ((l.take i).map encB ++ m.map encB ++ List.replicate (l.length - i) (.agg [.nil0, .int .i64 0]))) (m := ((l.drop i).map encB)) (l' := ((l.take i ++ m ++ l.drop i).map encB)) (k := (l.length - i)) ty146 ty144 rfl rfl (AHeap.get_set _ _ _) (by simp; omega) rfl (by rw [AV.view_own (by rw [AHeap.get_set_ne _ _ hrp]; exact hG1) (by simp; omega)]; congr 1; rw [Nat.zero_add, List.map_drop, List.take_of_length_le (by simp)]) (by refine Even.map _ ?_ _; intro _; rfl) (by intro x hx; obtain ⟨_, _, rfl⟩ := List.mem_map.1 hx; rfl) (.inr hp2) (by simp; omega) (by simp only [Nat.zero_add]; exact ins_b encB l m (.agg [.nil0, .int .i64 0]) i hi) ?_)
     rw [AHeap.set_set]
     refine m_done (by kernel_rfl) ?_
     refine g_next hK12 ?_
     refine g_seq (fun K13 hK13 => ?_)
     refine g_region ?_
     refine g_step rfl (s_val (v_move rfl) rfl rfl ?_)
     refine g_step rfl (s_val (v_assign rfl) rfl rfl ?_)
     refine g_nil ?_
     refine g_next hK13 ?_
     refine g_ret ?_
     refine g_then_ret ?_
     refine g_end1 (.inl rfl) Try.results81 (.tmp rfl) [(p, .row 2 ((l.take i ++ m ++ l.drop i).map encB))] (by first | exact ASub.ownc _ _ _ _ _ | (refine cast ?_ (ASub.refl (.own r 2 0 (l.length + m.length))); congr 2; simp <;> omega) | (refine cast ?_ (ASub.refl (.own p 2 0 (l.length + m.length))); congr 1; congr 1; simp <;> omega)) (AHeap.sub_refl _) (fun q' hq' => .inr (by simp at hq'; subst hq'; exact hp2)) ⟨p, .inr hp2, rfl, rfl⟩
    ·
     try simp only [decide_eq_true_eq, decide_eq_false_iff_not, Bool.not_eq_true', Bool.not_eq_false', Bool.not_eq_eq_eq_not, Bool.not_true, Bool.not_false, Bool.and_eq_true, Bool.or_eq_true, Bool.or_eq_false_iff, beq_iff_eq, beq_eq_false_iff_ne, ne_eq, Int.not_lt, Int.not_le, Decidable.not_not] at hc31
     refine g_skip ?_
     refine g_next hK8 ?_
     refine g_seq (fun K14 hK14 => ?_)
     refine g_region ?_
     refine g_room 0 m.length rfl hG1 (by simp) (by omega) ?_
     refine g_step rfl (s_val (v_move rfl) rfl rfl ?_)
     refine g_step rfl (s_val (v_move rfl) rfl rfl ?_)
     refine g_step rfl (s_val (v_move rfl) rfl rfl ?_)
     refine g_step rfl (s_val (v_add rfl rfl (by omega)) rfl rfl ?_)
     refine g_step rfl (s_val (v_slice_ownc (lo := 0) (hi := l.length + m.length) ty146 ty144 rfl rfl rfl rfl (by omega) (by omega) (by omega) (.inl rfl)) rfl rfl ?_)
     refine g_step rfl (s_val (v_assign rfl) rfl rfl ?_)
     refine g_nil ?_
     refine g_next hK14 ?_
     first | refine g_keep [0, 1, 2, 7, 8] [] [] (keep_cons rfl (keep_cons rfl (keep_cons rfl (keep_cons rfl (keep_cons rfl keep_nil))))) lkeep_nil keep_nil rfl ?_ | refine g_keep [0, 1, 2, 7, 8] [] [] rfl rfl rfl rfl ?_
     refine g_seq (fun K15 hK15 => ?_)
     refine g_seq (fun K16 hK16 => ?_)
     refine g_region ?_
     refine g_step rfl (s_val (v_move rfl) rfl rfl ?_)
     refine g_step rfl (s_val (v_move rfl) rfl rfl ?_)
     refine g_step rfl (s_val (v_move rfl) rfl rfl ?_)
     refine g_step rfl (s_val (v_move rfl) rfl rfl ?_)
     refine g_step rfl (s_val (v_add rfl rfl (by omega)) rfl rfl ?_)
     refine g_step rfl (s_val (v_slice_ownc (lo := i + m.length) (hi := l.length + m.length) ty146 ty144 rfl rfl rfl (by omega) (by omega) (by omega) (by omega) (.inr (by omega))) rfl rfl ?_)
     refine g_step rfl (s_val (v_overlaps ov106 ty145 ty144 rfl rfl (by rw [AHeap.get_set_ne _ _ hne]; exact hq1) (AHeap.get_set _ _ _) hne (by omega) rfl) rfl rfl ?_)
     refine g_step rfl (s_val (v_not rfl) rfl rfl ?_)
     refine g_nil ?_
     refine g_next hK16 ?_
     refine g_cond rfl (fun hc68 => ?_) (fun hc68 => ?_)
     ·
      try simp only [decide_eq_true_eq, decide_eq_false_iff_not, Bool.not_eq_true', Bool.not_eq_false', Bool.not_eq_eq_eq_not, Bool.not_true, Bool.not_false, Bool.and_eq_true, Bool.or_eq_true, Bool.or_eq_false_iff, beq_iff_eq, beq_eq_false_iff_ne, ne_eq, Int.not_lt, Int.not_le, Decidable.not_not] at hc68
      refine g_seq (fun K17 hK17 => ?_)
      refine g_draw (n := 9) (fun j => !([8] : List Nat).contains j) rfl rfl ?_
      refine m_take 0 false rfl rfl (by kernel_rfl) (by kernel_rfl) (by kernel_rfl) (fun _ _ _ _ h => h) (v_move rfl) rfl rfl ?_
      refine m_take 1 false rfl rfl (by kernel_rfl) (by kernel_rfl) (by kernel_rfl) (fun _ _ _ _ h => h) (v_move rfl) rfl rfl ?_
      refine m_take 2 false rfl rfl (by kernel_rfl) (by kernel_rfl) (by kernel_rfl) (fun _ _ _ _ h => h) (v_move rfl) rfl rfl ?_
      refine m_take 3 false rfl rfl (by kernel_rfl) (by kernel_rfl) (by kernel_rfl) (fun _ _ _ _ h => h) (v_add rfl rfl (by omega)) rfl rfl ?_
      refine m_take 4 false rfl rfl (by kernel_rfl) (by kernel_rfl) (by kernel_rfl) (fun _ _ _ _ h => h) (v_slice_ownc' (lo := i + m.length) (hi := l.length + m.length) ty146 ty144 rfl rfl rfl (by omega) (by omega) (by omega) (by omega) (.inr (by omega))) rfl rfl ?_
      refine m_take 5 false rfl rfl (by kernel_rfl) (by kernel_rfl) (by kernel_rfl) (fun _ _ _ _ h => h) (v_move rfl) rfl rfl ?_
      refine m_take 6 false rfl rfl (by kernel_rfl) (by kernel_rfl) (by kernel_rfl) (fun _ _ _ _ h => h) (v_move rfl) rfl rfl ?_
      refine m_take 7 false rfl rfl (by kernel_rfl) (by kernel_rfl) (by kernel_rfl) (fun _ _ _ _ h => h) (v_slice_ownc' (lo := i) (hi := l.length + m.length) ty146 ty144 rfl rfl rfl hzi (by omega) (by omega) (by omega) (.inr (by omega))) rfl rfl ?_
      refine m_one 8 (by kernel_rfl) rfl rfl ?_
      refine sm_any rfl (s_copyk (l := ((l.map encB) ++ List.replicate m.length (unkE 2))) (m := ((l.drop i).map encB ++ List.replicate m.length (unkE 2))) (l' := ((((l.map encB) ++ List.replicate m.length (unkE 2))).take (i + m.length) ++ (l.drop i).map encB)) (k := l.length - i) ty146 ty144 rfl rfl (AHeap.get_set _ _ _) (by simp; omega) rfl (by rw [AV.view_own (AHeap.get_set _ _ _) (by simp; omega)]; congr 1; simp only [Nat.zero_add]; rw [List.drop_append_of_le_length (by simp; omega), List.map_drop, List.take_of_length_le (by simp; omega)]) (Even.append (by refine Even.map _ ?_ _; intro _; rfl) (fun y hy => by rw [List.eq_of_mem_replicate hy]; rfl)) (by rw [List.take_append_of_le_length (by simp), List.take_of_length_le (by simp)]; exact (by intro x hx; obtain ⟨_, _, rfl⟩ := List.mem_map.1 hx; rfl)) (.inl rfl) (by simp; omega) (by simp only [Nat.zero_add]; exact ins_c encB l (List.replicate m.length (unkE 2)) i m.length (by simp) hi) ?_)
      rw [AHeap.set_set]
      refine m_done (by kernel_rfl) ?_
      refine g_next hK17 ?_
      refine g_seq (fun K18 hK18 => ?_)
      refine g_region ?_
      refine g_step rfl (s_val (v_move rfl) rfl rfl ?_)
      refine g_step rfl (s_val (v_move rfl) rfl rfl ?_)
      refine g_step rfl (s_val (v_slice_ownc' (lo := i) (hi := l.length + m.length) ty146 ty144 rfl rfl rfl hzi (by omega) (by omega) (by omega) (.inr (by omega))) rfl rfl ?_)
      refine g_step rfl (s_val (v_move rfl) rfl rfl ?_)
      refine g_step rfl (s_copy (l := ((((l.map encB) ++ List.replicate m.length (unkE 2))).take (i + m.length) ++ (l.drop i).map encB)) (m := (m.map encB)) (l' := ((l.take i ++ m ++ l.drop i).map encB)) (k := m.length) ty146 ty144 rfl rfl (AHeap.get_set _ _ _) (by simp; omega) rfl (by rw [AV.view_own_all (by first | exact hq1 | (rw [AHeap.get_set_ne _ _ hne]; exact hq1) | (rw [AHeap.get_set_ne _ _ hqp]; exact hq1)) (by simp)]) (by refine Even.map _ ?_ _; intro _; rfl) (by intro x hx; obtain ⟨_, _, rfl⟩ := List.mem_map.1 hx; rfl) (.inl rfl) (by simp; omega) (by simp only [Nat.zero_add]; exact ins_d encB l m (List.replicate m.length (unkE 2)) i (by simp) hi) ?_)
      rw [AHeap.set_set]
      refine g_nil ?_
      refine g_next hK18 ?_
      first | refine g_keep [0] [] [] (keep_cons rfl keep_nil) lkeep_nil keep_nil rfl ?_ | refine g_keep [0] [] [] rfl rfl rfl rfl ?_
      refine g_seq (fun K19 hK19 => ?_)
      refine g_region ?_
      refine g_step rfl (s_val (v_move rfl) rfl rfl ?_)
      refine g_step rfl (s_val (v_assign rfl) rfl rfl ?_)
      refine g_nil ?_
      refine g_next hK19 ?_
      refine g_ret ?_
      refine g_then_ret ?_
      refine g_end1 (.inl rfl) Try.results81 (.tmp rfl) [(r, .row 2 ((l.take i ++ m ++ l.drop i).map encB))] (by show ASub (.ownc r 2 (0 + 0) (l.length + m.length - 0) _) _; exact ASub.ownc _ _ _ _ _) (AHeap.sub_refl _) (fun q' hq' => .inl (by simp at hq'; subst hq'; rw [hG]; simp)) ⟨r, .inl rfl, rfl, rfl⟩
     · exfalso; (try simp only [decide_eq_true_eq, decide_eq_false_iff_not, Bool.not_eq_true', Bool.not_eq_false', Bool.not_eq_eq_eq_not, Bool.not_true, Bool.not_false, Bool.and_eq_true, Bool.or_eq_true, Bool.or_eq_false_iff, beq_iff_eq, beq_eq_false_iff_ne, ne_eq, Int.not_lt, Int.not_le, Decidable.not_not] at hc68); simp at hc68
 ·
  refine g_step rfl (s_val (v_move rfl) rfl rfl ?_)
  refine g_step rfl (s_val (v_move rfl) rfl rfl ?_)
  refine g_step rfl (s_val (v_slice_empty (lo := i) ty146 ty144 rfl rfl rfl hzi (by omega) (by omega)) rfl rfl ?_)
  refine g_nil ?_
  refine g_next hK1 ?_
  refine g_seq (fun K20 hK20 => ?_)
  refine g_region ?_
  refine g_step rfl (s_val (v_move rfl) rfl rfl ?_)
  refine g_step rfl (s_val (v_len ty145 rfl (by rw [AV.view_own_all (by first | exact hq1 | (rw [AHeap.get_set_ne _ _ hne]; exact hq1) | (rw [AHeap.get_set_ne _ _ hqp]; exact hq1)) (by simp)]) (by simp; rfl)) rfl rfl ?_)
  refine g_step rfl (s_val (v_assign rfl) rfl rfl ?_)
  refine g_nil ?_
  refine g_next hK20 ?_
  refine g_seq (fun K21 hK21 => ?_)
  refine g_seq (fun K22 hK22 => ?_)
  refine g_region ?_
  refine g_step rfl (s_val (v_move rfl) rfl rfl ?_)
  refine g_step rfl (s_val (v_eql rfl rfl) rfl rfl ?_)
  refine g_nil ?_
  refine g_next hK22 ?_
  refine g_cond rfl (fun hc16 => ?_) (fun hc16 => ?_)
  · exfalso; (try simp only [decide_eq_true_eq, decide_eq_false_iff_not, Bool.not_eq_true', Bool.not_eq_false', Bool.not_eq_eq_eq_not, Bool.not_true, Bool.not_false, Bool.and_eq_true, Bool.or_eq_true, Bool.or_eq_false_iff, beq_iff_eq, beq_eq_false_iff_ne, ne_eq, Int.not_lt, Int.not_le, Decidable.not_not] at hc16); omega
  ·
   try simp only [decide_eq_true_eq, decide_eq_false_iff_not, Bool.not_eq_true', Bool.not_eq_false', Bool.not_eq_eq_eq_not, Bool.not_true, Bool.not_false, Bool.and_eq_true, Bool.or_eq_true, Bool.or_eq_false_iff, beq_iff_eq, beq_eq_false_iff_ne, ne_eq, Int.not_lt, Int.not_le, Decidable.not_not] at hc16
   refine g_skip ?_
   refine g_next hK21 ?_
   refine g_seq (fun K23 hK23 => ?_)
   refine g_region ?_
   refine g_step rfl (s_val (v_move rfl) rfl rfl ?_)
   refine g_step rfl (s_val (v_len ty146 rfl (AV.view_own_all hG1 (by simp)) (by simp; rfl)) rfl rfl ?_)
   refine g_step rfl (s_val (v_assign rfl) rfl rfl ?_)
   refine g_nil ?_
   refine g_next hK23 ?_
   refine g_seq (fun K24 hK24 => ?_)
   refine g_seq (fun K25 hK25 => ?_)
   refine g_region ?_
   refine g_step rfl (s_val (v_move rfl) rfl rfl ?_)
   refine g_step rfl (s_val (v_move rfl) rfl rfl ?_)
   refine g_step rfl (s_val (v_eql rfl rfl) rfl rfl ?_)
   refine g_nil ?_
   refine g_next hK25 ?_
   refine g_cond rfl (fun hc22 => ?_) (fun hc22 => ?_)
   ·
    try simp only [decide_eq_true_eq, decide_eq_false_iff_not, Bool.not_eq_true', Bool.not_eq_false', Bool.not_eq_eq_eq_not, Bool.not_true, Bool.not_false, Bool.and_eq_true, Bool.or_eq_true, Bool.or_eq_false_iff, beq_iff_eq, beq_eq_false_iff_ne, ne_eq, Int.not_lt, Int.not_le, Decidable.not_not] at hc22
    refine g_seq (fun K26 hK26 => ?_)
    refine g_region ?_
    refine g_step rfl (s_val (v_move rfl) rfl rfl ?_)
    refine g_step rfl (s_val (v_move rfl) rfl rfl ?_)
    refine g_cap 23 rfl (fun cp hcp => ?_)
    obtain rfl : i = l.length := by omega
    rcases Nat.lt_or_ge cp (l.length + m.length) with hroom | hroom
    ·
     refine g_step rfl (s_appendT ty146 ty145 <| s_append_out (l := (l.map encB)) (m := (m.map encB)) (l' := ((l ++ m).map encB)) ty146 ty144 rfl rfl hG1 (by simp) (by simp; omega) rfl (by rw [AV.view_own_all (by first | exact hq1 | (rw [AHeap.get_set_ne _ _ hne]; exact hq1) | (rw [AHeap.get_set_ne _ _ hqp]; exact hq1)) (by simp)]) (by refine Even.map _ ?_ _; intro _; rfl) rfl (by simp; omega) (by simp; omega) (by simp [List.take_of_length_le]) ?_)
     intro p hp1 hp2
     refine g_step rfl (s_val (v_assign rfl) rfl rfl ?_)
     refine g_nil ?_
     refine g_next hK26 ?_
     refine g_ret ?_
     refine g_then_ret ?_
     refine g_end1 (.inl rfl) Try.results81 (.tmp rfl) [(p, .row 2 ((l ++ m).map encB))] (by first | exact ASub.ownc _ _ _ _ _ | (refine cast ?_ (ASub.refl (.own r 2 0 (l.length + m.length))); congr 2; simp <;> omega) | (refine cast ?_ (ASub.refl (.own p 2 0 (l.length + m.length))); congr 1; congr 1; simp <;> omega)) (AHeap.sub_refl _) (fun q' hq' => .inr (by simp at hq'; subst hq'; exact hp2)) ⟨p, .inr hp2, rfl, by simp⟩
    ·
     refine g_room 23 m.length rfl hG1 (by simp) (by omega) ?_
     refine g_step rfl (s_appendT ty146 ty145 <| s_append_in (l := ((l.map encB) ++ List.replicate m.length (unkE 2))) (m := (m.map encB)) (l' := ((l ++ m).map encB)) ty146 ty144 rfl rfl (AHeap.get_set _ _ _) (by simp) (by simp; omega) rfl (by rw [AV.view_own_all (by first | exact hq1 | (rw [AHeap.get_set_ne _ _ hne]; exact hq1) | (rw [AHeap.get_set_ne _ _ hqp]; exact hq1)) (by simp)]) (by refine Even.map _ ?_ _; intro _; rfl) (by intro x hx; obtain ⟨_, _, rfl⟩ := List.mem_map.1 hx; rfl) (.inl rfl) (by simp [List.take_append_of_le_length, List.take_of_length_le]) ?_)
     rw [AHeap.set_set]
     refine g_step rfl (s_val (v_assign rfl) rfl rfl ?_)
     refine g_nil ?_
     refine g_next hK26 ?_
     refine g_ret ?_
     refine g_then_ret ?_
     refine g_end1 (.inl rfl) Try.results81 (.tmp rfl) [(r, .row 2 ((l ++ m).map encB))] (by rw [show l.length + m.length = l.length + (m.map encB).length by simp]; exact ASub.ownc _ _ _ _ _) (AHeap.sub_refl _) (fun q' hq' => .inl (by simp at hq'; subst hq'; rw [hG]; simp)) ⟨r, .inl rfl, rfl, by simp⟩
   · exfalso; (try simp only [decide_eq_true_eq, decide_eq_false_iff_not, Bool.not_eq_true', Bool.not_eq_false', Bool.not_eq_eq_eq_not, Bool.not_true, Bool.not_false, Bool.and_eq_true, Bool.or_eq_true, Bool.or_eq_false_iff, beq_iff_eq, beq_eq_false_iff_ne, ne_eq, Int.not_lt, Int.not_le, Decidable.not_not] at hc22); omega

theorem insBNil_ok (q : Nat) (m : List BRow) (G : AHeap) (hq : G q = some (.row 2 (m.map encB))) (hm : 0 < m.length) (hb : m.length ≤ 1000000) : LCalls Try.prog 81 [.nil0, .int .i64 0, .own q 2 0 m.length] G noD (fun n v effs => OwnR n 2 v (m.map encB) effs) := by
 refine LCalls.intro 95 fi81 rfl Try.ntmps81 rfl (fun _ h => h.elim) (fun H hH w0 hw0 => ?_)
 have hq1 := hH _ _ hq
 refine g_seq (fun K0 hK0 => ?_)
 refine g_region ?_
 refine g_step rfl (s_val (v_assign rfl) rfl rfl ?_)
 refine g_nil ?_
 refine g_next hK0 ?_
 refine g_seq (fun K1 hK1 => ?_)
 refine g_region ?_
 refine g_step rfl (s_val (v_move rfl) rfl rfl ?_)
 refine g_step rfl (s_val (v_move rfl) rfl rfl ?_)
 refine g_step rfl (s_val (v_slice_nil ty146 ty144 rfl rfl rfl (by first | rfl | omega) (by first | rfl | omega)) rfl rfl ?_)
 refine g_nil ?_
 refine g_next hK1 ?_
 refine g_seq (fun K2 hK2 => ?_)
 refine g_region ?_
 refine g_step rfl (s_val (v_move rfl) rfl rfl ?_)
 refine g_step rfl (s_val (v_len ty145 rfl (AV.view_own_all hq1 (by simp)) (by simp; rfl)) rfl rfl ?_)
 refine g_step rfl (s_val (v_assign rfl) rfl rfl ?_)
 refine g_nil ?_
 refine g_next hK2 ?_
 refine g_seq (fun K3 hK3 => ?_)
 refine g_seq (fun K4 hK4 => ?_)
 refine g_region ?_
 refine g_step rfl (s_val (v_move rfl) rfl rfl ?_)
 refine g_step rfl (s_val (v_eql rfl rfl) rfl rfl ?_)
 refine g_nil ?_
 refine g_next hK4 ?_
 refine g_cond rfl (fun hc16 => ?_) (fun hc16 => ?_)
 · exfalso; (try simp only [decide_eq_true_eq, decide_eq_false_iff_not, Bool.not_eq_true', Bool.not_eq_false', Bool.not_eq_eq_eq_not, Bool.not_true, Bool.not_false, Bool.and_eq_true, Bool.or_eq_true, Bool.or_eq_false_iff, beq_iff_eq, beq_eq_false_iff_ne, ne_eq, Int.not_lt, Int.not_le, Decidable.not_not] at hc16); omega
 ·
  try simp only [decide_eq_true_eq, decide_eq_false_iff_not, Bool.not_eq_true', Bool.not_eq_false', Bool.not_eq_eq_eq_not, Bool.not_true, Bool.not_false, Bool.and_eq_true, Bool.or_eq_true, Bool.or_eq_false_iff, beq_iff_eq, beq_eq_false_iff_ne, ne_eq, Int.not_lt, Int.not_le, Decidable.not_not] at hc16
  refine g_skip ?_
  refine g_next hK3 ?_
  refine g_seq (fun K5 hK5 => ?_)
  refine g_region ?_
  refine g_step rfl (s_val (v_move rfl) rfl rfl ?_)
  refine g_step rfl (s_val (v_len ty146 rfl rfl (by first | exact List.length_map .. | rfl)) rfl rfl ?_)
  refine g_step rfl (s_val (v_assign rfl) rfl rfl ?_)
  refine g_nil ?_
  refine g_next hK5 ?_
  refine g_seq (fun K6 hK6 => ?_)
  refine g_seq (fun K7 hK7 => ?_)
  refine g_region ?_
  refine g_step rfl (s_val (v_move rfl) rfl rfl ?_)
  refine g_step rfl (s_val (v_move rfl) rfl rfl ?_)
  refine g_step rfl (s_val (v_eql rfl rfl) rfl rfl ?_)
  refine g_nil ?_
  refine g_next hK7 ?_
  refine g_cond rfl (fun hc22 => ?_) (fun hc22 => ?_)
  ·
   try simp only [decide_eq_true_eq, decide_eq_false_iff_not, Bool.not_eq_true', Bool.not_eq_false', Bool.not_eq_eq_eq_not, Bool.not_true, Bool.not_false, Bool.and_eq_true, Bool.or_eq_true, Bool.or_eq_false_iff, beq_iff_eq, beq_eq_false_iff_ne, ne_eq, Int.not_lt, Int.not_le, Decidable.not_not] at hc22
   refine g_seq (fun K8 hK8 => ?_)
   refine g_region ?_
   refine g_step rfl (s_val (v_move rfl) rfl rfl ?_)
   refine g_step rfl (s_val (v_move rfl) rfl rfl ?_)
   refine g_step rfl (s_appendT ty146 ty145 <| s_append (l := []) (m := (m.map encB)) ty146 ty144 rfl rfl (Own.nil ..) rfl (AV.view_own_all hq1 (by simp)) (by refine Even.map _ ?_ _; intro _; rfl) (by intro x hx; obtain ⟨_, _, rfl⟩ := List.mem_map.1 hx; rfl) rfl (by simp; omega) (by simp; omega) ?_)
   intro av25 G25 hown25
   obtain ⟨e, he1, he2, he3⟩ := hown25.effs
   rw [List.nil_append] at he1
   refine g_step rfl (s_val (v_assign rfl) rfl rfl ?_)
   refine g_nil ?_
   refine g_next hK8 ?_
   refine g_ret ?_
   refine g_then_ret ?_
   refine g_end1 (.inl rfl) Try.results81 (.tmp rfl) e (ASub.refl _) (by rw [he3]; exact AHeap.sub_refl _) (fun q hq => .inr (he2 q hq)) he1
  · exfalso; (try simp only [decide_eq_true_eq, decide_eq_false_iff_not, Bool.not_eq_true', Bool.not_eq_false', Bool.not_eq_eq_eq_not, Bool.not_true, Bool.not_false, Bool.and_eq_true, Bool.or_eq_true, Bool.or_eq_false_iff, beq_iff_eq, beq_eq_false_iff_ne, ne_eq, Int.not_lt, Int.not_le, Decidable.not_not] at hc22); simp at hc22

theorem delB_ok (r i j : Nat) (l : List BRow) (zi zj : Int) (G : AHeap) (hzi : zi = (i : Int)) (hzj : zj = (j : Int)) (hG : G r = some (.row 2 (l.map encB))) (hij : i < j) (hj : j ≤ l.length) (hl : l.length ≤ 1000000) : LCalls Try.prog 71 [.own r 2 0 l.length, .int .i64 zi, .int .i64 zj] G (· = r) (fun n v effs => v = .own r 2 0 (l.length - (j - i)) ∧ effs = [(r, .row 2 (((l.take i ++ l.drop j).map encB) ++ List.replicate (j - i) (.agg [.nil0, .int .i64 0])))]) := by
 refine LCalls.intro 33 fi71 rfl Try.ntmps71 rfl (fun b hb => by subst hb; rw [hG]; simp) (fun H hH w0 hw0 => ?_)
 have hG1 := hH _ _ hG
 refine g_seq (fun K0 hK0 => ?_)
 refine g_region ?_
 refine g_step rfl (s_val (v_assign rfl) rfl rfl ?_)
 refine g_nil ?_
 refine g_next hK0 ?_
 refine g_seq (fun K1 hK1 => ?_)
 refine g_region ?_
 refine g_step rfl (s_val (v_move rfl) rfl rfl ?_)
 refine g_step rfl (s_val (v_move rfl) rfl rfl ?_)
 refine g_step rfl (s_val (v_move rfl) rfl rfl ?_)
 refine g_step rfl (s_val (v_move rfl) rfl rfl ?_)
 refine g_step rfl (s_val (v_len ty146 rfl (AV.view_own_all hG1 (by simp)) (by simp; rfl)) rfl rfl ?_)
 refine g_step rfl (s_val (v_slice_max (lo := i) (hi := j) (mx := l.length) ty146 ty144 rfl rfl rfl rfl hzi hzj rfl (by omega) hj (Nat.le_refl _)) rfl rfl ?_)
 refine g_nil ?_
 refine g_next hK1 ?_
 refine g_seq (fun K2 hK2 => ?_)
 refine g_seq (fun K3 hK3 => ?_)
 refine g_region ?_
 refine g_step rfl (s_val (v_move rfl) rfl rfl ?_)
 refine g_step rfl (s_val (v_move rfl) rfl rfl ?_)
 refine g_step rfl (s_val (v_eql rfl rfl) rfl rfl ?_)
 refine g_nil ?_
 refine g_next hK3 ?_
 refine g_cond rfl (fun hc16 => ?_) (fun hc16 => ?_)
 · exfalso; (try simp only [decide_eq_true_eq, decide_eq_false_iff_not, Bool.not_eq_true', Bool.not_eq_false', Bool.not_eq_eq_eq_not, Bool.not_true, Bool.not_false, Bool.and_eq_true, Bool.or_eq_true, Bool.or_eq_false_iff, beq_iff_eq, beq_eq_false_iff_ne, ne_eq, Int.not_lt, Int.not_le, Decidable.not_not] at hc16); omega
 ·
  try simp only [decide_eq_true_eq, decide_eq_false_iff_not, Bool.not_eq_true', Bool.not_eq_false', Bool.not_eq_eq_eq_not, Bool.not_true, Bool.not_false, Bool.and_eq_true, Bool.or_eq_true, Bool.or_eq_false_iff, beq_iff_eq, beq_eq_false_iff_ne, ne_eq, Int.not_lt, Int.not_le, Decidable.not_not] at hc16
  refine g_skip ?_
  refine g_next hK2 ?_
  refine g_seq (fun K4 hK4 => ?_)
  refine g_region ?_
  rcases Nat.lt_or_ge j l.length with hjl | hjl
  ·
   refine g_step rfl (s_val (v_move rfl) rfl rfl ?_)
   refine g_step rfl (s_val (v_len ty146 rfl (AV.view_own_all hG1 (by simp)) (by simp; rfl)) rfl rfl ?_)
   refine g_step rfl (s_val (v_assign rfl) rfl rfl ?_)
   refine g_nil ?_
   refine g_next hK4 ?_
   refine g_seq (fun K5 hK5 => ?_)
   refine g_draw (n := 8) (fun j => !([6] : List Nat).contains j) rfl rfl ?_
   refine g_cap 0 rfl (fun cp hcp => ?_)
   refine m_take 0 false rfl rfl (by kernel_rfl) (by kernel_rfl) (by kernel_rfl) (fun _ _ _ _ h => h) (v_move rfl) rfl rfl ?_
   refine m_take 1 false rfl rfl (by kernel_rfl) (by kernel_rfl) (by kernel_rfl) (fun _ _ _ _ h => h) (v_move rfl) rfl rfl ?_
   refine m_take 2 false rfl rfl (by kernel_rfl) (by kernel_rfl) (by kernel_rfl) (fun _ _ _ _ h => h) (v_slice_ownc (lo := 0) (hi := i) ty146 ty144 rfl rfl rfl rfl hzi (by omega) (by omega) (.inl rfl)) rfl rfl ?_
   refine m_take 3 false rfl rfl (by kernel_rfl) (by kernel_rfl) (by kernel_rfl) (fun _ _ _ _ h => h) (v_move_ownc rfl) rfl rfl ?_
   refine m_take 4 false rfl rfl (by kernel_rfl) (by kernel_rfl) (by kernel_rfl) (fun _ _ _ _ h => h) (v_move rfl) rfl rfl ?_
   refine m_take 5 false rfl rfl (by kernel_rfl) (by kernel_rfl) (by kernel_rfl) (fun _ _ _ _ h => h) (v_slice_own (lo := j) (hi := l.length) ty146 ty144 rfl rfl rfl hzj rfl (by omega) (by omega) (.inr hjl)) rfl rfl ?_
   refine m_one 6 (by kernel_rfl) rfl rfl ?_
   refine sm_any rfl (s_append_in (l := (l.map encB)) (m := ((l.drop j).map encB)) (l' := (((l.take i ++ l.drop j).map encB) ++ (l.drop (i + (l.length - j))).map encB)) ty146 ty144 rfl rfl hG1 (by simp; omega) (by simp; omega) rfl (by rw [AV.view_own hG1 (by simp; omega)]; congr 1; rw [Nat.zero_add, List.map_drop, List.take_of_length_le (by simp)]) (by refine Even.map _ ?_ _; intro _; rfl) (by intro x hx; obtain ⟨_, _, rfl⟩ := List.mem_map.1 hx; rfl) (.inl rfl) (del_a encB l (by omega) hj) ?_)
   refine m_take 7 false rfl rfl (by kernel_rfl) (by kernel_rfl) (by kernel_rfl) (fun _ _ _ _ h => h) (v_assign rfl) rfl rfl ?_
   refine m_done (by kernel_rfl) ?_
   refine g_next hK5 ?_
   refine g_seq (fun K6 hK6 => ?_)
   refine g_region ?_
   refine g_step rfl (s_val (v_move rfl) rfl rfl ?_)
   refine g_step rfl (s_val (v_move_ownc rfl) rfl rfl ?_)
   refine g_step rfl (s_val (v_len ty146 rfl (AV.view_own (AHeap.get_set _ _ _) (by simp; omega)) (by simp; rfl)) rfl rfl ?_)
   refine g_step rfl (s_val (v_move rfl) rfl rfl ?_)
   refine g_step rfl (s_val (v_slice_ownc' (lo := i + (l.length - j)) (hi := l.length) ty146 ty144 rfl rfl rfl (by simp; omega) rfl (by omega) (by omega) (.inr (by omega))) rfl rfl ?_)
   refine g_step rfl (s_clear (l := (((l.take i ++ l.drop j).map encB) ++ (l.drop (i + (l.length - j))).map encB)) (l' := (((l.take i ++ l.drop j).map encB) ++ List.replicate (j - i) (.agg [.nil0, .int .i64 0]))) (za := (.agg [.nil0, .int .i64 0])) ty146 ty144 rfl (AHeap.get_set _ _ _) (by simp; omega) rfl rfl rfl rfl (.inl rfl) (del_b encB (.agg [.nil0, .int .i64 0]) l (by omega) hj) ?_)
   rw [AHeap.set_set]
   refine g_nil ?_
   refine g_next hK6 ?_
   first | refine g_keep [0] [] [] (keep_cons rfl keep_nil) lkeep_nil keep_nil rfl ?_ | refine g_keep [0] [] [] rfl rfl rfl rfl ?_
   refine g_seq (fun K7 hK7 => ?_)
   refine g_region ?_
   refine g_step rfl (s_val (v_move_ownc rfl) rfl rfl ?_)
   refine g_step rfl (s_val (v_assign rfl) rfl rfl ?_)
   refine g_nil ?_
   refine g_next hK7 ?_
   refine g_ret ?_
   refine g_end1 (.inl rfl) Try.results71 (.tmp rfl) [(r, .row 2 (((l.take i ++ l.drop j).map encB) ++ List.replicate (j - i) (.agg [.nil0, .int .i64 0])))] (by refine cast ?_ (ASub.refl (.own r 2 0 (l.length - (j - i)))); congr 1; congr 1; simp <;> omega) (AHeap.sub_refl _) (fun q' hq' => .inl (by simp at hq'; subst hq'; rw [hG]; simp)) ⟨rfl, rfl⟩
  ·
   refine g_step rfl (s_val (v_move rfl) rfl rfl ?_)
   refine g_step rfl (s_val (v_len ty146 rfl (AV.view_own_all hG1 (by simp)) (by simp; rfl)) rfl rfl ?_)
   refine g_step rfl (s_val (v_assign rfl) rfl rfl ?_)
   refine g_nil ?_
   refine g_next hK4 ?_
   refine g_seq (fun K8 hK8 => ?_)
   refine g_draw (n := 8) (fun j => !([6] : List Nat).contains j) rfl rfl ?_
   refine g_cap 0 rfl (fun cp hcp => ?_)
   refine m_take 0 false rfl rfl (by kernel_rfl) (by kernel_rfl) (by kernel_rfl) (fun _ _ _ _ h => h) (v_move rfl) rfl rfl ?_
   refine m_take 1 false rfl rfl (by kernel_rfl) (by kernel_rfl) (by kernel_rfl) (fun _ _ _ _ h => h) (v_move rfl) rfl rfl ?_
   refine m_take 2 false rfl rfl (by kernel_rfl) (by kernel_rfl) (by kernel_rfl) (fun _ _ _ _ h => h) (v_slice_ownc (lo := 0) (hi := i) ty146 ty144 rfl rfl rfl rfl hzi (by omega) (by omega) (.inl rfl)) rfl rfl ?_
   refine m_take 3 false rfl rfl (by kernel_rfl) (by kernel_rfl) (by kernel_rfl) (fun _ _ _ _ h => h) (v_move_ownc rfl) rfl rfl ?_
   refine m_take 4 false rfl rfl (by kernel_rfl) (by kernel_rfl) (by kernel_rfl) (fun _ _ _ _ h => h) (v_move rfl) rfl rfl ?_
   refine m_take 5 false rfl rfl (by kernel_rfl) (by kernel_rfl) (by kernel_rfl) (fun _ _ _ _ h => h) (v_slice_empty (lo := j) ty146 ty144 rfl rfl rfl hzj (by omega) (by omega)) rfl rfl ?_
   refine m_one 6 (by kernel_rfl) rfl rfl ?_
   refine sm_any rfl (s_append_in (l := (l.map encB)) (m := ((l.drop j).map encB)) (l' := (((l.take i ++ l.drop j).map encB) ++ (l.drop (i + (l.length - j))).map encB)) ty146 ty144 rfl rfl hG1 (by simp; omega) (by simp; omega) rfl (by rw [List.drop_of_length_le hjl]; rfl) (by refine Even.map _ ?_ _; intro _; rfl) (by intro x hx; obtain ⟨_, _, rfl⟩ := List.mem_map.1 hx; rfl) (.inl rfl) (del_a encB l (by omega) hj) ?_)
   refine m_take 7 false rfl rfl (by kernel_rfl) (by kernel_rfl) (by kernel_rfl) (fun _ _ _ _ h => h) (v_assign rfl) rfl rfl ?_
   refine m_done (by kernel_rfl) ?_
   refine g_next hK8 ?_
   refine g_seq (fun K9 hK9 => ?_)
   refine g_region ?_
   refine g_step rfl (s_val (v_move rfl) rfl rfl ?_)
   refine g_step rfl (s_val (v_move_ownc rfl) rfl rfl ?_)
   refine g_step rfl (s_val (v_len ty146 rfl (AV.view_own (AHeap.get_set _ _ _) (by simp; omega)) (by simp; rfl)) rfl rfl ?_)
   refine g_step rfl (s_val (v_move rfl) rfl rfl ?_)
   refine g_step rfl (s_val (v_slice_ownc' (lo := i + (l.length - j)) (hi := l.length) ty146 ty144 rfl rfl rfl (by simp; omega) rfl (by omega) (by omega) (.inr (by omega))) rfl rfl ?_)
   refine g_step rfl (s_clear (l := (((l.take i ++ l.drop j).map encB) ++ (l.drop (i + (l.length - j))).map encB)) (l' := (((l.take i ++ l.drop j).map encB) ++ List.replicate (j - i) (.agg [.nil0, .int .i64 0]))) (za := (.agg [.nil0, .int .i64 0])) ty146 ty144 rfl (AHeap.get_set _ _ _) (by simp; omega) rfl rfl rfl rfl (.inl rfl) (del_b encB (.agg [.nil0, .int .i64 0]) l (by omega) hj) ?_)
   rw [AHeap.set_set]
   refine g_nil ?_
   refine g_next hK9 ?_
   first | refine g_keep [0] [] [] (keep_cons rfl keep_nil) lkeep_nil keep_nil rfl ?_ | refine g_keep [0] [] [] rfl rfl rfl rfl ?_
   refine g_seq (fun K10 hK10 => ?_)
   refine g_region ?_
   refine g_step rfl (s_val (v_move_ownc rfl) rfl rfl ?_)
   refine g_step rfl (s_val (v_assign rfl) rfl rfl ?_)
   refine g_nil ?_
   refine g_next hK10 ?_
   refine g_ret ?_
   refine g_end1 (.inl rfl) Try.results71 (.tmp rfl) [(r, .row 2 (((l.take i ++ l.drop j).map encB) ++ List.replicate (j - i) (.agg [.nil0, .int .i64 0])))] (by refine cast ?_ (ASub.refl (.own r 2 0 (l.length - (j - i)))); congr 1; congr 1; simp <;> omega) (AHeap.sub_refl _) (fun q' hq' => .inl (by simp at hq'; subst hq'; rw [hG]; simp)) ⟨rfl, rfl⟩

theorem insBV_ok (q i : Nat) (l : List BRow) (x : BRow) (va : AV) (G : AHeap) (hw : SV G 2 va (l.map encB)) (hq : G q = some (.row 2 ([x].map encB))) (hne : ∀ n, va ≠ .own q 2 0 n) (hi : i ≤ l.length) (hb : l.length ≤ 1000) :
    LCalls Try.prog 81 [va, .int .i64 (i : Int), .own q 2 0 1] G (fun c => ∃ n, va = .own c 2 0 n) (fun n v effs => ∃ p, ((∃ k, va = .own p 2 0 k) ∨ n ≤ p) ∧ v = .own p 2 0 (l.length + 1) ∧ effs = [(p, .row 2 ((l.take i ++ [x] ++ l.drop i).map encB))]) := by
  rcases hw with ⟨rfl, h0⟩ | ⟨r, rfl, hr⟩
  · obtain rfl : l = [] := List.map_eq_nil_iff.1 h0
    obtain rfl : i = 0 := by simpa using hi
    refine (LCalls.weakD (insBNil_ok q [x] G hq (by simp) (by simp)) (fun _ h => h.elim) (fun b ⟨n, h⟩ => by cases h)).mono fun n v effs h => ?_
    rcases h with ⟨_, h1, _⟩ | ⟨p, h1, h2, h3⟩
    · simp at h1
    · exact ⟨p, .inr h1, by simpa using h2, by simpa using h3⟩
  · rw [List.length_map] at hne ⊢
    refine (LCalls.weakD (insB_ok r q i l [x] i G rfl hr hq (fun e => hne _ (by rw [e])) hi (by simp) (by simp; omega)) (fun b hb => ⟨_, by rw [hb]⟩) (fun b ⟨n, h⟩ => by cases h; rw [hr]; simp)).mono fun n v effs ⟨p, h1, h2, h3⟩ => ⟨p, h1.imp (fun h => ⟨l.length, by rw [h]⟩) id, by simpa using h2, h3⟩
theorem delfBV_ok (l : List BRow) (f : Nat) (caps : List AV) (p : BRow → Bool) (va : AV) (G : AHeap) (hw : SV G 2 va (l.map encB)) (hl : l.length ≤ 1000) (hcall : ∀ x ∈ l, ∀ r, (∃ n, va = .own r 2 0 n) → ∀ H', (G.del r).sub H' → PCalls Try.prog f ([encB x] ++ caps) H' (fun v => v = .bool (p x))) :
    LCalls Try.prog 79 [va, .fn (.func f) caps] G (fun c => ∃ n, va = .own c 2 0 n) (fun n v effs => (va = .nil0 ∧ l = [] ∧ v = .nil0 ∧ effs = []) ∨ ∃ r k, va = .own r 2 0 k ∧ v = .own r 2 0 (l.filter (fun x => !p x)).length ∧ effs = [(r, .row 2 ((l.filter (fun x => !p x)).map encB ++ List.replicate (l.length - (l.filter (fun x => !p x)).length) (.agg [.nil0, .int .i64 0])))]) := by
  rcases hw with ⟨rfl, h0⟩ | ⟨r, rfl, hr⟩
  · obtain rfl : l = [] := List.map_eq_nil_iff.1 h0
    exact (LCalls.weakD (delfBNil_ok f caps G) (fun _ h => h.elim) (fun b ⟨n, h⟩ => by cases h)).mono fun n v effs h => .inl ⟨rfl, rfl, h.2, h.1⟩
  · rw [List.length_map] at hcall ⊢
    exact (LCalls.weakD (delfB_ok r l f caps p G hr (by omega) (fun x hx => hcall x hx r ⟨_, rfl⟩)) (fun b hb => ⟨_, by rw [hb]⟩) (fun b ⟨n, h⟩ => by cases h; rw [hr]; simp)).mono fun n v effs h => .inr ⟨r, _, rfl, h.1, h.2⟩

end Go.Proofs.Ytobigfbgaiglkaa

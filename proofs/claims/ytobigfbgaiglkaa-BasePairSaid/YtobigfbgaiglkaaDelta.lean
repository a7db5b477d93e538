import Derived.Test.YtobigfbgaiglkaaRec2
import Derived.Test.YtobigfbgaiglkaaPDelta3
import Derived.Test.YtobigfbgaiglkaaAmB
set_option maxHeartbeats 8000000
set_option linter.unusedSimpArgs false
set_option linter.unusedVariables false
set_option maxRecDepth 100000
namespace Go.Proofs.Ytobigfbgaiglkaa
open Go Go.Proofs.Ytobigfbgaiglkaa.AM
theorem both_ok (a b : List Rc) (G : AHeap) (ha : a.length ≤ 1000000) (hb : b.length ≤ 1000000) (hsa : ∀ x ∈ a, Small x.bag) (hsb : ∀ x ∈ b, Small x.bag) : PCalls Try.prog 84 [encRs a, encRs b] G (fun v => v = .bool (srt a && srt b)) := by
 refine LCalls.intro 11 fi84 rfl Try.ntmps84 rfl (fun _ h => h.elim) (fun H hH w0 hw0 => ?_)
 refine g_seq (fun K0 hK0 => ?_)
 refine g_region ?_
 refine g_step rfl (s_val (v_assign rfl) rfl rfl ?_)
 refine g_nil ?_
 refine g_next hK0 ?_
 refine g_seq (fun K1 hK1 => ?_)
 refine g_region ?_
 refine g_step rfl (s_val (v_move rfl) rfl rfl ?_)
 refine g_step rfl (s_callp rfl rfl rfl (sorted_ok a _ ha hsa) ?_)
 rintro _ rfl
 refine g_step rfl (s_val (v_move rfl) rfl rfl ?_)
 refine g_split 7 rfl (fun hg7 => ?_) (fun hg7 => ?_)
 ·
  try simp only [decide_eq_true_eq, decide_eq_false_iff_not, Bool.not_eq_true', Bool.not_eq_false', Bool.not_eq_eq_eq_not, Bool.not_true, Bool.not_false, Bool.and_eq_true, Bool.or_eq_true, Bool.or_eq_false_iff, beq_iff_eq, beq_eq_false_iff_ne, ne_eq, Int.not_lt, Int.not_le, Decidable.not_not] at hg7
  refine g_step_yes (j := 2) (t := 7) rfl rfl rfl rfl (s_val (v_move rfl) rfl rfl ?_)
  refine g_step_yes (j := 2) (t := 7) rfl rfl rfl rfl (s_callp rfl rfl rfl (sorted_ok b _ hb hsb) ?_)
  rintro _ rfl
  refine g_step rfl (s_val (v_pick_t rfl rfl) rfl rfl ?_)
  refine g_step rfl (s_val (v_assign rfl) rfl rfl ?_)
  refine g_nil ?_
  refine g_next hK1 ?_
  refine g_ret ?_
  refine g_end1 (.inl rfl) Try.results84 (.tmp rfl) [] (ASub.refl _) (AHeap.sub_refl _) (fun p hp => by cases hp) ⟨rfl, ?_⟩
  first | (simp_all; done) | (simp_all; rfl)
 ·
  try simp only [decide_eq_true_eq, decide_eq_false_iff_not, Bool.not_eq_true', Bool.not_eq_false', Bool.not_eq_eq_eq_not, Bool.not_true, Bool.not_false, Bool.and_eq_true, Bool.or_eq_true, Bool.or_eq_false_iff, beq_iff_eq, beq_eq_false_iff_ne, ne_eq, Int.not_lt, Int.not_le, Decidable.not_not] at hg7
  refine g_step_no (j := 2) (t := 7) rfl rfl rfl rfl rfl rfl rfl ?_
  refine g_step_no (j := 2) (t := 7) rfl rfl rfl rfl rfl rfl rfl ?_
  refine g_step rfl (s_val (v_pick_f rfl rfl) rfl rfl ?_)
  refine g_step rfl (s_val (v_assign rfl) rfl rfl ?_)
  refine g_nil ?_
  refine g_next hK1 ?_
  refine g_ret ?_
  refine g_end1 (.inl rfl) Try.results84 (.tmp rfl) [] (ASub.refl _) (AHeap.sub_refl _) (fun p hp => by cases hp) ⟨rfl, ?_⟩
  first | (simp_all; done) | (simp_all; rfl)

theorem sideRO (a b : List Rc) (ff : Nat) (caps : List AV) (f : Option Rc → Option Rc → Option Rc) (G : AHeap) (hla : a.length ≤ 100000) (hlb : b.length ≤ 100000) (hcall : ∀ (la lb : List Rc) (ox oy : Option Rc), Hd la ox → Hd lb oy → ¬ (ox = none ∧ oy = none) → (∀ x, ox = some x → x ∈ a) → (∀ y, oy = some y → y ∈ b) → ∀ H, G.sub H → PCalls Try.prog ff ([ptrO (encRs la) ox.isSome, ptrO (encRs lb) oy.isSome] ++ caps) H (fun v => v = .tup [encR ((f ox oy).getD rzero), .bool (f ox oy).isSome])) : LCalls Try.prog 85 [encRs a, encRs b, .fn (.func ff) caps] G noD (fun n r effs => OwnR n 7 r ((sideL f a b).map encR) effs) := by
 refine LCalls.intro 83 fi85 rfl Try.ntmps85 rfl (fun _ h => h.elim) (fun H hH w0 hw0 => ?_)
 refine g_seq (fun K0 hK0 => ?_)
 refine g_region ?_
 refine g_step rfl (s_val (v_assign rfl) rfl rfl ?_)
 refine g_nil ?_
 refine g_next hK0 ?_
 refine g_seq (fun K1 hK1 => ?_)
 refine g_region ?_
 refine g_step rfl (s_val (v_assign rfl) rfl rfl ?_)
 refine g_nil ?_
 refine g_next hK1 ?_
 refine g_seq (fun K2 hK2 => ?_)
 refine g_block ?_
 first | refine g_keep [0, 1, 2, 7] [] [] (keep_cons rfl (keep_cons rfl (keep_cons rfl (keep_cons rfl keep_nil)))) lkeep_nil keep_nil rfl ?_ | refine g_keep [0, 1, 2, 7] [] [] rfl rfl rfl rfl ?_
 refine g_loop (fun n env L B G => ∃ (a' b' : List Rc) (av : AV) (acc : List Rc), n = a'.length + b'.length ∧ env = [(0, encRs a'), (1, encRs b'), (2, .fn (.func ff) caps), (7, av)] ∧ L = [] ∧ B = [] ∧ Own w0.heap.size 7 H av ((acc).map encR) G ∧ acc ++ sideL f a' b' = sideL f a b ∧ (∀ x ∈ a', x ∈ a) ∧ (∀ x ∈ b', x ∈ b) ∧ acc.length + a'.length + b'.length ≤ a.length + b.length) (a.length + b.length) ⟨a, b, .nil0, [], rfl, rfl, rfl, rfl, Own.nil .., rfl, fun _ h => h, fun _ h => h, by simp⟩ (fun n env L B G hI => ?_)
 obtain ⟨a', b', av, acc, rfl, rfl, rfl, rfl, hown, hacc, hma, hmb, hlen⟩ := hI
 have hla' : (encRs a').view G = some (a'.map encR) := rfl
 refine g_cut (fun env L B G => env = [(0, (encRs a')), (1, (encRs b')), (2, .fn (.func ff) caps), (7, av)] ∧ L = [] ∧ B = [] ∧ (0 < a'.length ∨ 0 < b'.length) ∧ Own w0.heap.size 7 H av ((acc).map encR) G) ?_ (fun env L B G hI => ?_)
 ·
  refine g_seq (fun K3 hK3 => ?_)
  refine g_region ?_
  refine g_step rfl (s_val (v_move rfl) rfl rfl ?_)
  refine g_step rfl (s_val (v_len ty64 rfl (by first | rfl | assumption) (by first | exact List.length_map .. | rfl)) rfl rfl ?_)
  refine g_step rfl (s_val (v_gtr rfl rfl) rfl rfl ?_)
  refine g_step rfl (s_val (v_move rfl) rfl rfl ?_)
  refine g_split 15 rfl (fun hg15 => ?_) (fun hg15 => ?_)
  ·
   try simp only [decide_eq_true_eq, decide_eq_false_iff_not, Bool.not_eq_true', Bool.not_eq_false', Bool.not_eq_eq_eq_not, Bool.not_true, Bool.not_false, Bool.and_eq_true, Bool.or_eq_true, Bool.or_eq_false_iff, beq_iff_eq, beq_eq_false_iff_ne, ne_eq, Int.not_lt, Int.not_le, Decidable.not_not] at hg15
   refine g_step_no (j := 3) (t := 15) rfl rfl rfl rfl rfl rfl rfl ?_
   refine g_step_no (j := 3) (t := 15) rfl rfl rfl rfl rfl rfl rfl ?_
   refine g_step_no (j := 3) (t := 15) rfl rfl rfl rfl rfl rfl rfl ?_
   refine g_step rfl (s_val (v_pick_t rfl rfl) rfl rfl ?_)
   refine g_nil ?_
   refine g_next hK3 ?_
   refine g_cond rfl (fun _ => ?_) (fun h => by cases h)
   refine g_skip ?_
   first | refine g_keep [0, 1, 2, 7] [] [] (keep_cons rfl (keep_cons rfl (keep_cons rfl (keep_cons rfl keep_nil)))) lkeep_nil keep_nil rfl ?_ | refine g_keep [0, 1, 2, 7] [] [] rfl rfl rfl rfl ?_
   exact g_has ⟨rfl, rfl, rfl, ⟨by first | (left; omega) | (right; omega), hown⟩⟩
  ·
   try simp only [decide_eq_true_eq, decide_eq_false_iff_not, Bool.not_eq_true', Bool.not_eq_false', Bool.not_eq_eq_eq_not, Bool.not_true, Bool.not_false, Bool.and_eq_true, Bool.or_eq_true, Bool.or_eq_false_iff, beq_iff_eq, beq_eq_false_iff_ne, ne_eq, Int.not_lt, Int.not_le, Decidable.not_not] at hg15
   refine g_step_yes (j := 3) (t := 15) rfl rfl rfl rfl (s_val (v_move rfl) rfl rfl ?_)
   refine g_step_yes (j := 3) (t := 15) rfl rfl rfl rfl (s_val (v_len ty64 rfl (by first | rfl | assumption) (by first | exact List.length_map .. | rfl)) rfl rfl ?_)
   refine g_step_yes (j := 3) (t := 15) rfl rfl rfl rfl (s_val (v_gtr rfl rfl) rfl rfl ?_)
   refine g_step rfl (s_val (v_pick_f rfl rfl) rfl rfl ?_)
   refine g_nil ?_
   refine g_next hK3 ?_
   refine g_cond rfl (fun hc19 => ?_) (fun hc19 => ?_)
   ·
    try simp only [decide_eq_true_eq, decide_eq_false_iff_not, Bool.not_eq_true', Bool.not_eq_false', Bool.not_eq_eq_eq_not, Bool.not_true, Bool.not_false, Bool.and_eq_true, Bool.or_eq_true, Bool.or_eq_false_iff, beq_iff_eq, beq_eq_false_iff_ne, ne_eq, Int.not_lt, Int.not_le, Decidable.not_not] at hc19
    refine g_skip ?_
    first | refine g_keep [0, 1, 2, 7] [] [] (keep_cons rfl (keep_cons rfl (keep_cons rfl (keep_cons rfl keep_nil)))) lkeep_nil keep_nil rfl ?_ | refine g_keep [0, 1, 2, 7] [] [] rfl rfl rfl rfl ?_
    exact g_has ⟨rfl, rfl, rfl, ⟨by first | (left; omega) | (right; omega), hown⟩⟩
   ·
    try simp only [decide_eq_true_eq, decide_eq_false_iff_not, Bool.not_eq_true', Bool.not_eq_false', Bool.not_eq_eq_eq_not, Bool.not_true, Bool.not_false, Bool.and_eq_true, Bool.or_eq_true, Bool.or_eq_false_iff, beq_iff_eq, beq_eq_false_iff_ne, ne_eq, Int.not_lt, Int.not_le, Decidable.not_not] at hc19
    skip
    refine g_exit ?_
    refine g_then_exit ?_
    refine g_then_exit ?_
    refine g_block_same ?_
    refine g_next hK2 ?_
    refine g_seq (fun K4 hK4 => ?_)
    refine g_region ?_
    obtain ⟨e, he1, he2, he3⟩ := hown.effs
    have hfin : acc = sideL f a b := by rw [← hacc, show a' = [] from List.eq_nil_of_length_eq_zero (by omega), show b' = [] from List.eq_nil_of_length_eq_zero (by omega), sideL_nil, List.append_nil]
    refine g_step rfl (s_val (v_move rfl) rfl rfl ?_)
    refine g_step rfl (s_val (v_assign rfl) rfl rfl ?_)
    refine g_nil ?_
    refine g_next hK4 ?_
    refine g_ret ?_
    refine g_end1 (.inl rfl) Try.results85 (.tmp rfl) e (ASub.refl _) (by rw [he3]; exact AHeap.sub_refl _) (fun q hq => .inr (he2 q hq)) (by rw [← hfin]; exact he1)
 ·
  obtain ⟨rfl, rfl, rfl, hne, hown⟩ := hI
  have hk := side_keep hne hacc hma hmb hlen
  refine g_block ?_
  refine g_seq (fun K5 hK5 => ?_)
  refine g_region ?_
  refine g_step rfl (s_val (v_assign rfl) rfl rfl ?_)
  refine g_step rfl (s_val (v_assign rfl) rfl rfl ?_)
  refine g_nil ?_
  refine g_next hK5 ?_
  refine g_cut (fun env L B G => ∃ (px : AV), env = [(0, (encRs a')), (1, (encRs b')), (2, .fn (.func ff) caps), (7, av), (8, px), (9, .nilp)] ∧ L = [] ∧ B = [] ∧ px = ptrO (encRs a') (headX a' b').isSome ∧ Own w0.heap.size 7 H av ((acc).map encR) G) ?_ (fun env L B G hI => ?_)
  ·
   refine g_seq (fun K6 hK6 => ?_)
   refine g_draw (n := 19) (fun j => !([] : List Nat).contains j) rfl rfl ?_
   skip
   refine m_take 0 false rfl rfl (by kernel_rfl) (by kernel_rfl) (by kernel_rfl) (fun _ _ _ _ h => h) (v_move rfl) rfl rfl ?_
   refine m_take 1 false rfl rfl (by kernel_rfl) (by kernel_rfl) (by kernel_rfl) (fun _ _ _ _ h => h) (v_len ty64 rfl (by first | rfl | assumption) (by first | exact List.length_map .. | rfl)) rfl rfl ?_
   refine m_take 2 false rfl rfl (by kernel_rfl) (by kernel_rfl) (by kernel_rfl) (fun _ _ _ _ h => h) (v_eql rfl rfl) rfl rfl ?_
   refine m_take 3 false rfl rfl (by kernel_rfl) (by kernel_rfl) (by kernel_rfl) (fun _ _ _ _ h => h) (v_move rfl) rfl rfl ?_
   refine m_split 23 rfl (fun hg23 => ?_) (fun hg23 => ?_)
   ·
    try simp only [decide_eq_true_eq, decide_eq_false_iff_not, Bool.not_eq_true', Bool.not_eq_false', Bool.not_eq_eq_eq_not, Bool.not_true, Bool.not_false, Bool.and_eq_true, Bool.or_eq_true, Bool.or_eq_false_iff, beq_iff_eq, beq_eq_false_iff_ne, ne_eq, Int.not_lt, Int.not_le, Decidable.not_not] at hg23
    refine m_take_no (j := 3) (t := 23) 4 rfl rfl rfl rfl rfl rfl (by kernel_rfl) (by kernel_rfl) (by kernel_rfl) (fun _ _ _ _ h => h) rfl rfl ?_
    refine m_take_no (j := 3) (t := 23) 5 rfl rfl rfl rfl rfl rfl (by kernel_rfl) (by kernel_rfl) (by kernel_rfl) (fun _ _ _ _ h => h) rfl rfl ?_
    refine m_take_no (j := 3) (t := 23) 6 rfl rfl rfl rfl rfl rfl (by kernel_rfl) (by kernel_rfl) (by kernel_rfl) (fun _ _ _ _ h => h) rfl rfl ?_
    refine m_take_no (j := 3) (t := 23) 7 rfl rfl rfl rfl rfl rfl (by kernel_rfl) (by kernel_rfl) (by kernel_rfl) (fun _ _ _ _ h => h) rfl rfl ?_
    refine m_take_und (j := 7) (t := 27) 8 rfl rfl rfl rfl rfl (by kernel_rfl) (by kernel_rfl) (by kernel_rfl) (fun _ _ _ _ h => h) rfl rfl ?_
    refine m_take_und (j := 7) (t := 27) 9 rfl rfl rfl rfl rfl (by kernel_rfl) (by kernel_rfl) (by kernel_rfl) (fun _ _ _ _ h => h) rfl rfl ?_
    refine m_take_und (j := 7) (t := 27) 10 rfl rfl rfl rfl rfl (by kernel_rfl) (by kernel_rfl) (by kernel_rfl) (fun _ _ _ _ h => h) rfl rfl ?_
    refine m_take_und (j := 7) (t := 27) 11 rfl rfl rfl rfl rfl (by kernel_rfl) (by kernel_rfl) (by kernel_rfl) (fun _ _ _ _ h => h) rfl rfl ?_
    refine m_take_und (j := 7) (t := 27) 12 rfl rfl rfl rfl rfl (by kernel_rfl) (by kernel_rfl) (by kernel_rfl) (fun _ _ _ _ h => h) rfl rfl ?_
    refine m_take_und (j := 7) (t := 27) 13 rfl rfl rfl rfl rfl (by kernel_rfl) (by kernel_rfl) (by kernel_rfl) (fun _ _ _ _ h => h) rfl rfl ?_
    refine m_take_und (j := 7) (t := 27) 14 rfl rfl rfl rfl rfl (by kernel_rfl) (by kernel_rfl) (by kernel_rfl) (fun _ _ _ _ h => h) rfl rfl ?_
    refine m_take_und (j := 7) (t := 27) 15 rfl rfl rfl rfl rfl (by kernel_rfl) (by kernel_rfl) (by kernel_rfl) (fun _ _ _ _ h => h) rfl rfl ?_
    refine m_take_und (j := 7) (t := 27) 16 rfl rfl rfl rfl rfl (by kernel_rfl) (by kernel_rfl) (by kernel_rfl) (fun _ _ _ _ h => h) rfl rfl ?_
    refine m_take_no (j := 3) (t := 23) 17 rfl rfl rfl rfl rfl rfl (by kernel_rfl) (by kernel_rfl) (by kernel_rfl) (fun _ _ _ _ h => h) rfl rfl ?_
    refine m_take 18 false rfl rfl (by kernel_rfl) (by kernel_rfl) (by kernel_rfl) (fun _ _ _ _ h => h) (v_pick_t rfl rfl) rfl rfl ?_
    refine m_done (by kernel_rfl) ?_
    refine g_next hK6 ?_
    first | refine g_keep [0, 1, 2, 7, 8, 9, 38] [] [] (keep_cons rfl (keep_cons rfl (keep_cons rfl (keep_cons rfl (keep_cons rfl (keep_cons rfl (keep_cons rfl keep_nil))))))) lkeep_nil keep_nil rfl ?_ | refine g_keep [0, 1, 2, 7, 8, 9, 38] [] [] rfl rfl rfl rfl ?_
    refine g_cond rfl (fun _ => ?_) (fun h => by cases h)
    refine g_region ?_
    obtain ⟨x5, hx5⟩ := get_some (l := a') (k := 0) (by omega)
    refine g_step rfl (s_val (v_move rfl) rfl rfl ?_)
    refine g_step rfl (s_val (v_indexAddr ty64 ty135 rfl rfl (by first | rfl | assumption) (by first | rfl | exact (rfl : (0 : Int) = ((0 : Nat) : Int)) | exact (Int.toNat_of_nonneg (by omega)).symm) (map_get hx5) rfl) rfl rfl ?_)
    refine g_step rfl (s_val (v_assign rfl) rfl rfl ?_)
    refine g_nil ?_
    first | refine g_keep [0, 1, 2, 7, 8, 9] [] [] (keep_cons rfl (keep_cons rfl (keep_cons rfl (keep_cons rfl (keep_cons rfl (keep_cons rfl keep_nil)))))) lkeep_nil keep_nil rfl ?_ | refine g_keep [0, 1, 2, 7, 8, 9] [] [] rfl rfl rfl rfl ?_
    exact g_has ⟨_, rfl, rfl, rfl, ⟨by first | (rw [hX1 (by omega) (by omega)]; rfl) | (rw [hX0 (by omega)]; rfl) | (rw [hX2 hx hy, decide_eq_true (by omega)]; rfl) | (rw [hX2 hx hy, decide_eq_false (by omega)]; rfl), hown⟩⟩
   ·
    try simp only [decide_eq_true_eq, decide_eq_false_iff_not, Bool.not_eq_true', Bool.not_eq_false', Bool.not_eq_eq_eq_not, Bool.not_true, Bool.not_false, Bool.and_eq_true, Bool.or_eq_true, Bool.or_eq_false_iff, beq_iff_eq, beq_eq_false_iff_ne, ne_eq, Int.not_lt, Int.not_le, Decidable.not_not] at hg23
    obtain ⟨y, hy⟩ := get_some (l := b') (k := 0) (by omega)
    refine m_take_yes (j := 3) (t := 23) 4 false rfl rfl rfl rfl rfl (by kernel_rfl) (by kernel_rfl) (by kernel_rfl) (fun _ _ _ _ h => h) (v_move rfl) rfl rfl ?_
    refine m_take_yes (j := 3) (t := 23) 5 false rfl rfl rfl rfl rfl (by kernel_rfl) (by kernel_rfl) (by kernel_rfl) (fun _ _ _ _ h => h) (v_len ty64 rfl (by first | rfl | assumption) (by first | exact List.length_map .. | rfl)) rfl rfl ?_
    refine m_take_yes (j := 3) (t := 23) 6 false rfl rfl rfl rfl rfl (by kernel_rfl) (by kernel_rfl) (by kernel_rfl) (fun _ _ _ _ h => h) (v_gtr rfl rfl) rfl rfl ?_
    refine m_take_yes (j := 3) (t := 23) 7 false rfl rfl rfl rfl rfl (by kernel_rfl) (by kernel_rfl) (by kernel_rfl) (fun _ _ _ _ h => h) (v_move rfl) rfl rfl ?_
    refine m_split 27 rfl (fun hg27 => ?_) (fun hg27 => ?_)
    ·
     try simp only [decide_eq_true_eq, decide_eq_false_iff_not, Bool.not_eq_true', Bool.not_eq_false', Bool.not_eq_eq_eq_not, Bool.not_true, Bool.not_false, Bool.and_eq_true, Bool.or_eq_true, Bool.or_eq_false_iff, beq_iff_eq, beq_eq_false_iff_ne, ne_eq, Int.not_lt, Int.not_le, Decidable.not_not] at hg27
     obtain ⟨x, hx⟩ := get_some (l := a') (k := 0) (by omega)
     refine m_take_yes (j := 7) (t := 27) 8 false rfl rfl rfl rfl rfl (by kernel_rfl) (by kernel_rfl) (by kernel_rfl) (fun _ _ _ _ h => h) (v_move rfl) rfl rfl ?_
     refine m_take_yes (j := 7) (t := 27) 9 false rfl rfl rfl rfl rfl (by kernel_rfl) (by kernel_rfl) (by kernel_rfl) (fun _ _ _ _ h => h) (v_indexAddr ty64 ty135 rfl rfl (by first | rfl | assumption) (by first | rfl | exact (rfl : (0 : Int) = ((0 : Nat) : Int)) | exact (Int.toNat_of_nonneg (by omega)).symm) (map_get hx) rfl) rfl rfl ?_
     refine m_take_yes (j := 7) (t := 27) 10 false rfl rfl rfl rfl rfl (by kernel_rfl) (by kernel_rfl) (by kernel_rfl) (fun _ _ _ _ h => h) (by first | exact v_fieldAddr ty135 fo135_0 ty3 rfl | exact v_fieldAddr_box ty135 fo135_0 ty3 rfl) rfl rfl ?_
     refine m_take_yes (j := 7) (t := 27) 11 true rfl rfl rfl rfl rfl (by kernel_rfl) (by kernel_rfl) (by kernel_rfl) (fun _ _ _ _ h => h) (by first | exact v_load ty3 rfl rfl (by first | rfl | assumption) (map_get hx) rfl | exact v_load_box ty3 rfl rfl (by assumption) rfl) rfl rfl ?_
     refine m_take_yes (j := 7) (t := 27) 12 false rfl rfl rfl rfl rfl (by kernel_rfl) (by kernel_rfl) (by kernel_rfl) (fun _ _ _ _ h => h) (v_move rfl) rfl rfl ?_
     refine m_take_yes (j := 7) (t := 27) 13 false rfl rfl rfl rfl rfl (by kernel_rfl) (by kernel_rfl) (by kernel_rfl) (fun _ _ _ _ h => h) (v_indexAddr ty64 ty135 rfl rfl (by first | rfl | assumption) (by first | rfl | exact (rfl : (0 : Int) = ((0 : Nat) : Int)) | exact (Int.toNat_of_nonneg (by omega)).symm) (map_get hy) rfl) rfl rfl ?_
     refine m_take_yes (j := 7) (t := 27) 14 false rfl rfl rfl rfl rfl (by kernel_rfl) (by kernel_rfl) (by kernel_rfl) (fun _ _ _ _ h => h) (by first | exact v_fieldAddr ty135 fo135_0 ty3 rfl | exact v_fieldAddr_box ty135 fo135_0 ty3 rfl) rfl rfl ?_
     refine m_take_yes (j := 7) (t := 27) 15 true rfl rfl rfl rfl rfl (by kernel_rfl) (by kernel_rfl) (by kernel_rfl) (fun _ _ _ _ h => h) (by first | exact v_load ty3 rfl rfl (by first | rfl | assumption) (map_get hy) rfl | exact v_load_box ty3 rfl rfl (by assumption) rfl) rfl rfl ?_
     refine m_take_yes (j := 7) (t := 27) 16 false rfl rfl rfl rfl rfl (by kernel_rfl) (by kernel_rfl) (by kernel_rfl) (fun _ _ _ _ h => h) (v_leq rfl rfl) rfl rfl ?_
     refine m_take_yes (j := 3) (t := 23) 17 false rfl rfl rfl rfl rfl (by kernel_rfl) (by kernel_rfl) (by kernel_rfl) (fun _ _ _ _ h => h) (v_pick_t rfl rfl) rfl rfl ?_
     refine m_take 18 false rfl rfl (by kernel_rfl) (by kernel_rfl) (by kernel_rfl) (fun _ _ _ _ h => h) (v_pick_f rfl rfl) rfl rfl ?_
     refine m_done (by kernel_rfl) ?_
     refine g_next hK6 ?_
     first | refine g_keep [0, 1, 2, 7, 8, 9, 38] [] [] (keep_cons rfl (keep_cons rfl (keep_cons rfl (keep_cons rfl (keep_cons rfl (keep_cons rfl (keep_cons rfl keep_nil))))))) lkeep_nil keep_nil rfl ?_ | refine g_keep [0, 1, 2, 7, 8, 9, 38] [] [] rfl rfl rfl rfl ?_
     refine g_cond rfl (fun hc38 => ?_) (fun hc38 => ?_)
     ·
      try simp only [decide_eq_true_eq, decide_eq_false_iff_not, Bool.not_eq_true', Bool.not_eq_false', Bool.not_eq_eq_eq_not, Bool.not_true, Bool.not_false, Bool.and_eq_true, Bool.or_eq_true, Bool.or_eq_false_iff, beq_iff_eq, beq_eq_false_iff_ne, ne_eq, Int.not_lt, Int.not_le, Decidable.not_not] at hc38
      refine g_region ?_
      obtain ⟨x5, hx5⟩ := get_some (l := a') (k := 0) (by omega)
      refine g_step rfl (s_val (v_move rfl) rfl rfl ?_)
      refine g_step rfl (s_val (v_indexAddr ty64 ty135 rfl rfl (by first | rfl | assumption) (by first | rfl | exact (rfl : (0 : Int) = ((0 : Nat) : Int)) | exact (Int.toNat_of_nonneg (by omega)).symm) (map_get hx5) rfl) rfl rfl ?_)
      refine g_step rfl (s_val (v_assign rfl) rfl rfl ?_)
      refine g_nil ?_
      first | refine g_keep [0, 1, 2, 7, 8, 9] [] [] (keep_cons rfl (keep_cons rfl (keep_cons rfl (keep_cons rfl (keep_cons rfl (keep_cons rfl keep_nil)))))) lkeep_nil keep_nil rfl ?_ | refine g_keep [0, 1, 2, 7, 8, 9] [] [] rfl rfl rfl rfl ?_
      exact g_has ⟨_, rfl, rfl, rfl, ⟨by first | (rw [hX1 (by omega) (by omega)]; rfl) | (rw [hX0 (by omega)]; rfl) | (rw [hX2 hx hy, decide_eq_true (by omega)]; rfl) | (rw [hX2 hx hy, decide_eq_false (by omega)]; rfl), hown⟩⟩
     ·
      try simp only [decide_eq_true_eq, decide_eq_false_iff_not, Bool.not_eq_true', Bool.not_eq_false', Bool.not_eq_eq_eq_not, Bool.not_true, Bool.not_false, Bool.and_eq_true, Bool.or_eq_true, Bool.or_eq_false_iff, beq_iff_eq, beq_eq_false_iff_ne, ne_eq, Int.not_lt, Int.not_le, Decidable.not_not] at hc38
      refine g_skip ?_
      first | refine g_keep [0, 1, 2, 7, 8, 9] [] [] (keep_cons rfl (keep_cons rfl (keep_cons rfl (keep_cons rfl (keep_cons rfl (keep_cons rfl keep_nil)))))) lkeep_nil keep_nil rfl ?_ | refine g_keep [0, 1, 2, 7, 8, 9] [] [] rfl rfl rfl rfl ?_
      exact g_has ⟨_, rfl, rfl, rfl, ⟨by first | (rw [hX1 (by omega) (by omega)]; rfl) | (rw [hX0 (by omega)]; rfl) | (rw [hX2 hx hy, decide_eq_true (by omega)]; rfl) | (rw [hX2 hx hy, decide_eq_false (by omega)]; rfl), hown⟩⟩
    ·
     try simp only [decide_eq_true_eq, decide_eq_false_iff_not, Bool.not_eq_true', Bool.not_eq_false', Bool.not_eq_eq_eq_not, Bool.not_true, Bool.not_false, Bool.and_eq_true, Bool.or_eq_true, Bool.or_eq_false_iff, beq_iff_eq, beq_eq_false_iff_ne, ne_eq, Int.not_lt, Int.not_le, Decidable.not_not] at hg27
     refine m_take_no (j := 7) (t := 27) 8 rfl rfl rfl rfl rfl rfl (by kernel_rfl) (by kernel_rfl) (by kernel_rfl) (fun _ _ _ _ h => h) rfl rfl ?_
     refine m_take_no (j := 7) (t := 27) 9 rfl rfl rfl rfl rfl rfl (by kernel_rfl) (by kernel_rfl) (by kernel_rfl) (fun _ _ _ _ h => h) rfl rfl ?_
     refine m_take_no (j := 7) (t := 27) 10 rfl rfl rfl rfl rfl rfl (by kernel_rfl) (by kernel_rfl) (by kernel_rfl) (fun _ _ _ _ h => h) rfl rfl ?_
     refine m_take_no (j := 7) (t := 27) 11 rfl rfl rfl rfl rfl rfl (by kernel_rfl) (by kernel_rfl) (by kernel_rfl) (fun _ _ _ _ h => h) rfl rfl ?_
     refine m_take_no (j := 7) (t := 27) 12 rfl rfl rfl rfl rfl rfl (by kernel_rfl) (by kernel_rfl) (by kernel_rfl) (fun _ _ _ _ h => h) rfl rfl ?_
     refine m_take_no (j := 7) (t := 27) 13 rfl rfl rfl rfl rfl rfl (by kernel_rfl) (by kernel_rfl) (by kernel_rfl) (fun _ _ _ _ h => h) rfl rfl ?_
     refine m_take_no (j := 7) (t := 27) 14 rfl rfl rfl rfl rfl rfl (by kernel_rfl) (by kernel_rfl) (by kernel_rfl) (fun _ _ _ _ h => h) rfl rfl ?_
     refine m_take_no (j := 7) (t := 27) 15 rfl rfl rfl rfl rfl rfl (by kernel_rfl) (by kernel_rfl) (by kernel_rfl) (fun _ _ _ _ h => h) rfl rfl ?_
     refine m_take_no (j := 7) (t := 27) 16 rfl rfl rfl rfl rfl rfl (by kernel_rfl) (by kernel_rfl) (by kernel_rfl) (fun _ _ _ _ h => h) rfl rfl ?_
     refine m_take_yes (j := 3) (t := 23) 17 false rfl rfl rfl rfl rfl (by kernel_rfl) (by kernel_rfl) (by kernel_rfl) (fun _ _ _ _ h => h) (v_pick_f rfl rfl) rfl rfl ?_
     refine m_take 18 false rfl rfl (by kernel_rfl) (by kernel_rfl) (by kernel_rfl) (fun _ _ _ _ h => h) (v_pick_f rfl rfl) rfl rfl ?_
     refine m_done (by kernel_rfl) ?_
     refine g_next hK6 ?_
     first | refine g_keep [0, 1, 2, 7, 8, 9, 38] [] [] (keep_cons rfl (keep_cons rfl (keep_cons rfl (keep_cons rfl (keep_cons rfl (keep_cons rfl (keep_cons rfl keep_nil))))))) lkeep_nil keep_nil rfl ?_ | refine g_keep [0, 1, 2, 7, 8, 9, 38] [] [] rfl rfl rfl rfl ?_
     refine g_cond rfl (fun h => by cases h) (fun _ => ?_)
     refine g_skip ?_
     first | refine g_keep [0, 1, 2, 7, 8, 9] [] [] (keep_cons rfl (keep_cons rfl (keep_cons rfl (keep_cons rfl (keep_cons rfl (keep_cons rfl keep_nil)))))) lkeep_nil keep_nil rfl ?_ | refine g_keep [0, 1, 2, 7, 8, 9] [] [] rfl rfl rfl rfl ?_
     exact g_has ⟨_, rfl, rfl, rfl, ⟨by first | (rw [hX1 (by omega) (by omega)]; rfl) | (rw [hX0 (by omega)]; rfl) | (rw [hX2 hx hy, decide_eq_true (by omega)]; rfl) | (rw [hX2 hx hy, decide_eq_false (by omega)]; rfl), hown⟩⟩
  ·
   obtain ⟨px, rfl, rfl, rfl, hpx, hown⟩ := hI
   subst hpx
   refine g_cut (fun env L B G => ∃ (py : AV), env = [(0, (encRs a')), (1, (encRs b')), (2, .fn (.func ff) caps), (7, av), (8, (ptrO (encRs a') (headX a' b').isSome)), (9, py)] ∧ L = [] ∧ B = [] ∧ py = ptrO (encRs b') (headY a' b').isSome ∧ Own w0.heap.size 7 H av ((acc).map encR) G) ?_ (fun env L B G hI => ?_)
   ·
    refine g_seq (fun K7 hK7 => ?_)
    refine g_draw (n := 19) (fun j => !([] : List Nat).contains j) rfl rfl ?_
    refine m_take 0 false rfl rfl (by kernel_rfl) (by kernel_rfl) (by kernel_rfl) (fun _ _ _ _ h => h) (v_move rfl) rfl rfl ?_
    refine m_take 1 false rfl rfl (by kernel_rfl) (by kernel_rfl) (by kernel_rfl) (fun _ _ _ _ h => h) (v_len ty64 rfl (by first | rfl | assumption) (by first | exact List.length_map .. | rfl)) rfl rfl ?_
    refine m_take 2 false rfl rfl (by kernel_rfl) (by kernel_rfl) (by kernel_rfl) (fun _ _ _ _ h => h) (v_eql rfl rfl) rfl rfl ?_
    refine m_take 3 false rfl rfl (by kernel_rfl) (by kernel_rfl) (by kernel_rfl) (fun _ _ _ _ h => h) (v_move rfl) rfl rfl ?_
    refine m_split 44 rfl (fun hg44 => ?_) (fun hg44 => ?_)
    ·
     try simp only [decide_eq_true_eq, decide_eq_false_iff_not, Bool.not_eq_true', Bool.not_eq_false', Bool.not_eq_eq_eq_not, Bool.not_true, Bool.not_false, Bool.and_eq_true, Bool.or_eq_true, Bool.or_eq_false_iff, beq_iff_eq, beq_eq_false_iff_ne, ne_eq, Int.not_lt, Int.not_le, Decidable.not_not] at hg44
     refine m_take_no (j := 3) (t := 44) 4 rfl rfl rfl rfl rfl rfl (by kernel_rfl) (by kernel_rfl) (by kernel_rfl) (fun _ _ _ _ h => h) rfl rfl ?_
     refine m_take_no (j := 3) (t := 44) 5 rfl rfl rfl rfl rfl rfl (by kernel_rfl) (by kernel_rfl) (by kernel_rfl) (fun _ _ _ _ h => h) rfl rfl ?_
     refine m_take_no (j := 3) (t := 44) 6 rfl rfl rfl rfl rfl rfl (by kernel_rfl) (by kernel_rfl) (by kernel_rfl) (fun _ _ _ _ h => h) rfl rfl ?_
     refine m_take_no (j := 3) (t := 44) 7 rfl rfl rfl rfl rfl rfl (by kernel_rfl) (by kernel_rfl) (by kernel_rfl) (fun _ _ _ _ h => h) rfl rfl ?_
     refine m_take_und (j := 7) (t := 48) 8 rfl rfl rfl rfl rfl (by kernel_rfl) (by kernel_rfl) (by kernel_rfl) (fun _ _ _ _ h => h) rfl rfl ?_
     refine m_take_und (j := 7) (t := 48) 9 rfl rfl rfl rfl rfl (by kernel_rfl) (by kernel_rfl) (by kernel_rfl) (fun _ _ _ _ h => h) rfl rfl ?_
     refine m_take_und (j := 7) (t := 48) 10 rfl rfl rfl rfl rfl (by kernel_rfl) (by kernel_rfl) (by kernel_rfl) (fun _ _ _ _ h => h) rfl rfl ?_
     refine m_take_und (j := 7) (t := 48) 11 rfl rfl rfl rfl rfl (by kernel_rfl) (by kernel_rfl) (by kernel_rfl) (fun _ _ _ _ h => h) rfl rfl ?_
     refine m_take_und (j := 7) (t := 48) 12 rfl rfl rfl rfl rfl (by kernel_rfl) (by kernel_rfl) (by kernel_rfl) (fun _ _ _ _ h => h) rfl rfl ?_
     refine m_take_und (j := 7) (t := 48) 13 rfl rfl rfl rfl rfl (by kernel_rfl) (by kernel_rfl) (by kernel_rfl) (fun _ _ _ _ h => h) rfl rfl ?_
     refine m_take_und (j := 7) (t := 48) 14 rfl rfl rfl rfl rfl (by kernel_rfl) (by kernel_rfl) (by kernel_rfl) (fun _ _ _ _ h => h) rfl rfl ?_
     refine m_take_und (j := 7) (t := 48) 15 rfl rfl rfl rfl rfl (by kernel_rfl) (by kernel_rfl) (by kernel_rfl) (fun _ _ _ _ h => h) rfl rfl ?_
     refine m_take_und (j := 7) (t := 48) 16 rfl rfl rfl rfl rfl (by kernel_rfl) (by kernel_rfl) (by kernel_rfl) (fun _ _ _ _ h => h) rfl rfl ?_
     refine m_take_no (j := 3) (t := 44) 17 rfl rfl rfl rfl rfl rfl (by kernel_rfl) (by kernel_rfl) (by kernel_rfl) (fun _ _ _ _ h => h) rfl rfl ?_
     refine m_take 18 false rfl rfl (by kernel_rfl) (by kernel_rfl) (by kernel_rfl) (fun _ _ _ _ h => h) (v_pick_t rfl rfl) rfl rfl ?_
     refine m_done (by kernel_rfl) ?_
     refine g_next hK7 ?_
     first | refine g_keep [0, 1, 2, 7, 8, 9, 59] [] [] (keep_cons rfl (keep_cons rfl (keep_cons rfl (keep_cons rfl (keep_cons rfl (keep_cons rfl (keep_cons rfl keep_nil))))))) lkeep_nil keep_nil rfl ?_ | refine g_keep [0, 1, 2, 7, 8, 9, 59] [] [] rfl rfl rfl rfl ?_
     refine g_cond rfl (fun _ => ?_) (fun h => by cases h)
     refine g_region ?_
     obtain ⟨y5, hy5⟩ := get_some (l := b') (k := 0) (by omega)
     refine g_step rfl (s_val (v_move rfl) rfl rfl ?_)
     refine g_step rfl (s_val (v_indexAddr ty64 ty135 rfl rfl (by first | rfl | assumption) (by first | rfl | exact (rfl : (0 : Int) = ((0 : Nat) : Int)) | exact (Int.toNat_of_nonneg (by omega)).symm) (map_get hy5) rfl) rfl rfl ?_)
     refine g_step rfl (s_val (v_assign rfl) rfl rfl ?_)
     refine g_nil ?_
     first | refine g_keep [0, 1, 2, 7, 8, 9] [] [] (keep_cons rfl (keep_cons rfl (keep_cons rfl (keep_cons rfl (keep_cons rfl (keep_cons rfl keep_nil)))))) lkeep_nil keep_nil rfl ?_ | refine g_keep [0, 1, 2, 7, 8, 9] [] [] rfl rfl rfl rfl ?_
     exact g_has ⟨_, rfl, rfl, rfl, ⟨by first | (rw [headY, hX1 (by omega) (by omega)]; rfl) | (rw [headY, hX0 (by omega)]; rfl) | (rw [headY, hX2 hy hx, decide_eq_true (by omega)]; rfl) | (rw [headY, hX2 hy hx, decide_eq_false (by omega)]; rfl), hown⟩⟩
    ·
     try simp only [decide_eq_true_eq, decide_eq_false_iff_not, Bool.not_eq_true', Bool.not_eq_false', Bool.not_eq_eq_eq_not, Bool.not_true, Bool.not_false, Bool.and_eq_true, Bool.or_eq_true, Bool.or_eq_false_iff, beq_iff_eq, beq_eq_false_iff_ne, ne_eq, Int.not_lt, Int.not_le, Decidable.not_not] at hg44
     obtain ⟨x, hx⟩ := get_some (l := a') (k := 0) (by omega)
     refine m_take_yes (j := 3) (t := 44) 4 false rfl rfl rfl rfl rfl (by kernel_rfl) (by kernel_rfl) (by kernel_rfl) (fun _ _ _ _ h => h) (v_move rfl) rfl rfl ?_
     refine m_take_yes (j := 3) (t := 44) 5 false rfl rfl rfl rfl rfl (by kernel_rfl) (by kernel_rfl) (by kernel_rfl) (fun _ _ _ _ h => h) (v_len ty64 rfl (by first | rfl | assumption) (by first | exact List.length_map .. | rfl)) rfl rfl ?_
     refine m_take_yes (j := 3) (t := 44) 6 false rfl rfl rfl rfl rfl (by kernel_rfl) (by kernel_rfl) (by kernel_rfl) (fun _ _ _ _ h => h) (v_gtr rfl rfl) rfl rfl ?_
     refine m_take_yes (j := 3) (t := 44) 7 false rfl rfl rfl rfl rfl (by kernel_rfl) (by kernel_rfl) (by kernel_rfl) (fun _ _ _ _ h => h) (v_move rfl) rfl rfl ?_
     refine m_split 48 rfl (fun hg48 => ?_) (fun hg48 => ?_)
     ·
      try simp only [decide_eq_true_eq, decide_eq_false_iff_not, Bool.not_eq_true', Bool.not_eq_false', Bool.not_eq_eq_eq_not, Bool.not_true, Bool.not_false, Bool.and_eq_true, Bool.or_eq_true, Bool.or_eq_false_iff, beq_iff_eq, beq_eq_false_iff_ne, ne_eq, Int.not_lt, Int.not_le, Decidable.not_not] at hg48
      obtain ⟨y, hy⟩ := get_some (l := b') (k := 0) (by omega)
      refine m_take_yes (j := 7) (t := 48) 8 false rfl rfl rfl rfl rfl (by kernel_rfl) (by kernel_rfl) (by kernel_rfl) (fun _ _ _ _ h => h) (v_move rfl) rfl rfl ?_
      refine m_take_yes (j := 7) (t := 48) 9 false rfl rfl rfl rfl rfl (by kernel_rfl) (by kernel_rfl) (by kernel_rfl) (fun _ _ _ _ h => h) (v_indexAddr ty64 ty135 rfl rfl (by first | rfl | assumption) (by first | rfl | exact (rfl : (0 : Int) = ((0 : Nat) : Int)) | exact (Int.toNat_of_nonneg (by omega)).symm) (map_get hy) rfl) rfl rfl ?_
      refine m_take_yes (j := 7) (t := 48) 10 false rfl rfl rfl rfl rfl (by kernel_rfl) (by kernel_rfl) (by kernel_rfl) (fun _ _ _ _ h => h) (by first | exact v_fieldAddr ty135 fo135_0 ty3 rfl | exact v_fieldAddr_box ty135 fo135_0 ty3 rfl) rfl rfl ?_
      refine m_take_yes (j := 7) (t := 48) 11 true rfl rfl rfl rfl rfl (by kernel_rfl) (by kernel_rfl) (by kernel_rfl) (fun _ _ _ _ h => h) (by first | exact v_load ty3 rfl rfl (by first | rfl | assumption) (map_get hy) rfl | exact v_load_box ty3 rfl rfl (by assumption) rfl) rfl rfl ?_
      refine m_take_yes (j := 7) (t := 48) 12 false rfl rfl rfl rfl rfl (by kernel_rfl) (by kernel_rfl) (by kernel_rfl) (fun _ _ _ _ h => h) (v_move rfl) rfl rfl ?_
      refine m_take_yes (j := 7) (t := 48) 13 false rfl rfl rfl rfl rfl (by kernel_rfl) (by kernel_rfl) (by kernel_rfl) (fun _ _ _ _ h => h) (v_indexAddr ty64 ty135 rfl rfl (by first | rfl | assumption) (by first | rfl | exact (rfl : (0 : Int) = ((0 : Nat) : Int)) | exact (Int.toNat_of_nonneg (by omega)).symm) (map_get hx) rfl) rfl rfl ?_
      refine m_take_yes (j := 7) (t := 48) 14 false rfl rfl rfl rfl rfl (by kernel_rfl) (by kernel_rfl) (by kernel_rfl) (fun _ _ _ _ h => h) (by first | exact v_fieldAddr ty135 fo135_0 ty3 rfl | exact v_fieldAddr_box ty135 fo135_0 ty3 rfl) rfl rfl ?_
      refine m_take_yes (j := 7) (t := 48) 15 true rfl rfl rfl rfl rfl (by kernel_rfl) (by kernel_rfl) (by kernel_rfl) (fun _ _ _ _ h => h) (by first | exact v_load ty3 rfl rfl (by first | rfl | assumption) (map_get hx) rfl | exact v_load_box ty3 rfl rfl (by assumption) rfl) rfl rfl ?_
      refine m_take_yes (j := 7) (t := 48) 16 false rfl rfl rfl rfl rfl (by kernel_rfl) (by kernel_rfl) (by kernel_rfl) (fun _ _ _ _ h => h) (v_leq rfl rfl) rfl rfl ?_
      refine m_take_yes (j := 3) (t := 44) 17 false rfl rfl rfl rfl rfl (by kernel_rfl) (by kernel_rfl) (by kernel_rfl) (fun _ _ _ _ h => h) (v_pick_t rfl rfl) rfl rfl ?_
      refine m_take 18 false rfl rfl (by kernel_rfl) (by kernel_rfl) (by kernel_rfl) (fun _ _ _ _ h => h) (v_pick_f rfl rfl) rfl rfl ?_
      refine m_done (by kernel_rfl) ?_
      refine g_next hK7 ?_
      first | refine g_keep [0, 1, 2, 7, 8, 9, 59] [] [] (keep_cons rfl (keep_cons rfl (keep_cons rfl (keep_cons rfl (keep_cons rfl (keep_cons rfl (keep_cons rfl keep_nil))))))) lkeep_nil keep_nil rfl ?_ | refine g_keep [0, 1, 2, 7, 8, 9, 59] [] [] rfl rfl rfl rfl ?_
      refine g_cond rfl (fun hc59 => ?_) (fun hc59 => ?_)
      ·
       try simp only [decide_eq_true_eq, decide_eq_false_iff_not, Bool.not_eq_true', Bool.not_eq_false', Bool.not_eq_eq_eq_not, Bool.not_true, Bool.not_false, Bool.and_eq_true, Bool.or_eq_true, Bool.or_eq_false_iff, beq_iff_eq, beq_eq_false_iff_ne, ne_eq, Int.not_lt, Int.not_le, Decidable.not_not] at hc59
       refine g_region ?_
       obtain ⟨y5, hy5⟩ := get_some (l := b') (k := 0) (by omega)
       refine g_step rfl (s_val (v_move rfl) rfl rfl ?_)
       refine g_step rfl (s_val (v_indexAddr ty64 ty135 rfl rfl (by first | rfl | assumption) (by first | rfl | exact (rfl : (0 : Int) = ((0 : Nat) : Int)) | exact (Int.toNat_of_nonneg (by omega)).symm) (map_get hy5) rfl) rfl rfl ?_)
       refine g_step rfl (s_val (v_assign rfl) rfl rfl ?_)
       refine g_nil ?_
       first | refine g_keep [0, 1, 2, 7, 8, 9] [] [] (keep_cons rfl (keep_cons rfl (keep_cons rfl (keep_cons rfl (keep_cons rfl (keep_cons rfl keep_nil)))))) lkeep_nil keep_nil rfl ?_ | refine g_keep [0, 1, 2, 7, 8, 9] [] [] rfl rfl rfl rfl ?_
       exact g_has ⟨_, rfl, rfl, rfl, ⟨by first | (rw [headY, hX1 (by omega) (by omega)]; rfl) | (rw [headY, hX0 (by omega)]; rfl) | (rw [headY, hX2 hy hx, decide_eq_true (by omega)]; rfl) | (rw [headY, hX2 hy hx, decide_eq_false (by omega)]; rfl), hown⟩⟩
      ·
       try simp only [decide_eq_true_eq, decide_eq_false_iff_not, Bool.not_eq_true', Bool.not_eq_false', Bool.not_eq_eq_eq_not, Bool.not_true, Bool.not_false, Bool.and_eq_true, Bool.or_eq_true, Bool.or_eq_false_iff, beq_iff_eq, beq_eq_false_iff_ne, ne_eq, Int.not_lt, Int.not_le, Decidable.not_not] at hc59
       refine g_skip ?_
       first | refine g_keep [0, 1, 2, 7, 8, 9] [] [] (keep_cons rfl (keep_cons rfl (keep_cons rfl (keep_cons rfl (keep_cons rfl (keep_cons rfl keep_nil)))))) lkeep_nil keep_nil rfl ?_ | refine g_keep [0, 1, 2, 7, 8, 9] [] [] rfl rfl rfl rfl ?_
       exact g_has ⟨_, rfl, rfl, rfl, ⟨by first | (rw [headY, hX1 (by omega) (by omega)]; rfl) | (rw [headY, hX0 (by omega)]; rfl) | (rw [headY, hX2 hy hx, decide_eq_true (by omega)]; rfl) | (rw [headY, hX2 hy hx, decide_eq_false (by omega)]; rfl), hown⟩⟩
     ·
      try simp only [decide_eq_true_eq, decide_eq_false_iff_not, Bool.not_eq_true', Bool.not_eq_false', Bool.not_eq_eq_eq_not, Bool.not_true, Bool.not_false, Bool.and_eq_true, Bool.or_eq_true, Bool.or_eq_false_iff, beq_iff_eq, beq_eq_false_iff_ne, ne_eq, Int.not_lt, Int.not_le, Decidable.not_not] at hg48
      refine m_take_no (j := 7) (t := 48) 8 rfl rfl rfl rfl rfl rfl (by kernel_rfl) (by kernel_rfl) (by kernel_rfl) (fun _ _ _ _ h => h) rfl rfl ?_
      refine m_take_no (j := 7) (t := 48) 9 rfl rfl rfl rfl rfl rfl (by kernel_rfl) (by kernel_rfl) (by kernel_rfl) (fun _ _ _ _ h => h) rfl rfl ?_
      refine m_take_no (j := 7) (t := 48) 10 rfl rfl rfl rfl rfl rfl (by kernel_rfl) (by kernel_rfl) (by kernel_rfl) (fun _ _ _ _ h => h) rfl rfl ?_
      refine m_take_no (j := 7) (t := 48) 11 rfl rfl rfl rfl rfl rfl (by kernel_rfl) (by kernel_rfl) (by kernel_rfl) (fun _ _ _ _ h => h) rfl rfl ?_
      refine m_take_no (j := 7) (t := 48) 12 rfl rfl rfl rfl rfl rfl (by kernel_rfl) (by kernel_rfl) (by kernel_rfl) (fun _ _ _ _ h => h) rfl rfl ?_
      refine m_take_no (j := 7) (t := 48) 13 rfl rfl rfl rfl rfl rfl (by kernel_rfl) (by kernel_rfl) (by kernel_rfl) (fun _ _ _ _ h => h) rfl rfl ?_
      refine m_take_no (j := 7) (t := 48) 14 rfl rfl rfl rfl rfl rfl (by kernel_rfl) (by kernel_rfl) (by kernel_rfl) (fun _ _ _ _ h => h) rfl rfl ?_
      refine m_take_no (j := 7) (t := 48) 15 rfl rfl rfl rfl rfl rfl (by kernel_rfl) (by kernel_rfl) (by kernel_rfl) (fun _ _ _ _ h => h) rfl rfl ?_
      refine m_take_no (j := 7) (t := 48) 16 rfl rfl rfl rfl rfl rfl (by kernel_rfl) (by kernel_rfl) (by kernel_rfl) (fun _ _ _ _ h => h) rfl rfl ?_
      refine m_take_yes (j := 3) (t := 44) 17 false rfl rfl rfl rfl rfl (by kernel_rfl) (by kernel_rfl) (by kernel_rfl) (fun _ _ _ _ h => h) (v_pick_f rfl rfl) rfl rfl ?_
      refine m_take 18 false rfl rfl (by kernel_rfl) (by kernel_rfl) (by kernel_rfl) (fun _ _ _ _ h => h) (v_pick_f rfl rfl) rfl rfl ?_
      refine m_done (by kernel_rfl) ?_
      refine g_next hK7 ?_
      first | refine g_keep [0, 1, 2, 7, 8, 9, 59] [] [] (keep_cons rfl (keep_cons rfl (keep_cons rfl (keep_cons rfl (keep_cons rfl (keep_cons rfl (keep_cons rfl keep_nil))))))) lkeep_nil keep_nil rfl ?_ | refine g_keep [0, 1, 2, 7, 8, 9, 59] [] [] rfl rfl rfl rfl ?_
      refine g_cond rfl (fun h => by cases h) (fun _ => ?_)
      refine g_skip ?_
      first | refine g_keep [0, 1, 2, 7, 8, 9] [] [] (keep_cons rfl (keep_cons rfl (keep_cons rfl (keep_cons rfl (keep_cons rfl (keep_cons rfl keep_nil)))))) lkeep_nil keep_nil rfl ?_ | refine g_keep [0, 1, 2, 7, 8, 9] [] [] rfl rfl rfl rfl ?_
      exact g_has ⟨_, rfl, rfl, rfl, ⟨by first | (rw [headY, hX1 (by omega) (by omega)]; rfl) | (rw [headY, hX0 (by omega)]; rfl) | (rw [headY, hX2 hy hx, decide_eq_true (by omega)]; rfl) | (rw [headY, hX2 hy hx, decide_eq_false (by omega)]; rfl), hown⟩⟩
   ·
    obtain ⟨py, rfl, rfl, rfl, hpy, hown⟩ := hI
    subst hpy
    refine g_cut (fun env L B G => ∃ (av2 : AV), env = [(0, (encRs a')), (1, (encRs b')), (2, .fn (.func ff) caps), (7, av2), (8, (ptrO (encRs a') (headX a' b').isSome)), (9, (ptrO (encRs b') (headY a' b').isSome))] ∧ L = [] ∧ B = [] ∧ Own w0.heap.size 7 H av2 ((acc ++ (f (headX a' b') (headY a' b')).toList).map encR) G) ?_ (fun env L B G hI => ?_)
    ·
     refine g_seq (fun K8 hK8 => ?_)
     refine g_region ?_
     refine g_step rfl (s_val (v_move rfl) rfl rfl ?_)
     refine g_step rfl (s_val (v_move rfl) rfl rfl ?_)
     refine g_step rfl (s_val (v_move rfl) rfl rfl ?_)
     refine g_step rfl (s_callp rfl rfl rfl (hcall a' b' (headX a' b') (headY a' b') (headX_hd a' b') (headY_hd a' b') (head_one (nil_or hne)) (fun x hx => hma x ((headX_hd a' b').mem hx)) (fun y hy => hmb y ((headY_hd a' b').mem hy)) _ (AHeap.sub_trans hH hown.sub)) ?_)
     rintro _ rfl
     refine g_step rfl (s_val (v_move rfl) rfl rfl ?_)
     refine g_step rfl (s_val (v_extract rfl rfl) rfl rfl ?_)
     refine g_step rfl (s_val (v_extract rfl rfl) rfl rfl ?_)
     refine g_step rfl (s_alloc (av := (.agg [(.int .i64 0), (.int .i64 0), (.int .i64 0), (.int .i64 0), (.int .i64 0), (.bool false), .nil0])) ty135 rfl rfl rfl rfl ?_)
     refine g_step rfl (s_store_all ty135 rfl rfl rfl rfl rfl rfl ?_)
     refine g_step rfl (s_val (v_assign rfl) rfl rfl ?_)
     refine g_nil ?_
     refine g_next hK8 ?_
     refine g_seq (fun K9 hK9 => ?_)
     refine g_region ?_
     refine g_step rfl (s_val (v_move rfl) rfl rfl ?_)
     refine g_nil ?_
     refine g_next hK9 ?_
     refine g_cond rfl (fun hc69 => ?_) (fun hc69 => ?_)
     ·
      try simp only [decide_eq_true_eq, decide_eq_false_iff_not, Bool.not_eq_true', Bool.not_eq_false', Bool.not_eq_eq_eq_not, Bool.not_true, Bool.not_false, Bool.and_eq_true, Bool.or_eq_true, Bool.or_eq_false_iff, beq_iff_eq, beq_eq_false_iff_ne, ne_eq, Int.not_lt, Int.not_le, Decidable.not_not] at hc69
      refine g_region ?_
      refine g_step rfl (s_val (v_move rfl) rfl rfl ?_)
      refine g_step rfl (s_val (by first | exact v_loadl_all ty135 rfl rfl rfl rfl rfl | exact v_loadl_part (cs := [_, _, _, _, _, _, _]) ty135 rfl rfl rfl rfl rfl rfl) rfl rfl ?_)
      refine g_step rfl (s_lit ty64 ty135 rfl rfl rfl rfl rfl rfl rfl ?_)
      refine g_step rfl (s_append (l := (acc.map encR)) (m := ([(f (headX a' b') (headY a' b')).getD rzero].map encR)) ty64 ty135 rfl rfl hown rfl rfl (by refine Even.map _ ?_ _; intro _; rfl) (by intro x hx; obtain ⟨_, _, rfl⟩ := List.mem_map.1 hx; rfl) rfl (by simp; omega) (by simp; omega) ?_)
      intro av73 G73 hown73
      refine g_step rfl (s_val (v_assign rfl) rfl rfl ?_)
      refine g_nil ?_
      first | refine g_keep [0, 1, 2, 7, 8, 9] [] [] (keep_cons rfl (keep_cons rfl (keep_cons rfl (keep_cons rfl (keep_cons rfl (keep_cons rfl keep_nil)))))) lkeep_nil keep_nil rfl ?_ | refine g_keep [0, 1, 2, 7, 8, 9] [] [] rfl rfl rfl rfl ?_
      first | exact g_has ⟨av73, rfl, rfl, rfl, by rw [toList_some rzero hc69, List.map_append]; exact hown73⟩ | exact g_has ⟨av, rfl, rfl, rfl, by rw [toList_none hc69, List.append_nil]; exact hown⟩
     ·
      try simp only [decide_eq_true_eq, decide_eq_false_iff_not, Bool.not_eq_true', Bool.not_eq_false', Bool.not_eq_eq_eq_not, Bool.not_true, Bool.not_false, Bool.and_eq_true, Bool.or_eq_true, Bool.or_eq_false_iff, beq_iff_eq, beq_eq_false_iff_ne, ne_eq, Int.not_lt, Int.not_le, Decidable.not_not] at hc69
      refine g_skip ?_
      first | refine g_keep [0, 1, 2, 7, 8, 9] [] [] (keep_cons rfl (keep_cons rfl (keep_cons rfl (keep_cons rfl (keep_cons rfl (keep_cons rfl keep_nil)))))) lkeep_nil keep_nil rfl ?_ | refine g_keep [0, 1, 2, 7, 8, 9] [] [] rfl rfl rfl rfl ?_
      first | exact g_has ⟨av73, rfl, rfl, rfl, by rw [toList_some rzero hc69, List.map_append]; exact hown73⟩ | exact g_has ⟨av, rfl, rfl, rfl, by rw [toList_none hc69, List.append_nil]; exact hown⟩
    ·
     obtain ⟨av2, rfl, rfl, rfl, hown2⟩ := hI
     refine g_cut (fun env L B G => ∃ (va2 : AV), env = [(0, va2), (1, (encRs b')), (2, .fn (.func ff) caps), (7, av2), (9, (ptrO (encRs b') (headY a' b').isSome))] ∧ L = [] ∧ B = [] ∧ va2 = encRs (nextA a' b') ∧ Own w0.heap.size 7 H av2 ((acc ++ (f (headX a' b') (headY a' b')).toList).map encR) G) ?_ (fun env L B G hI => ?_)
     ·
      refine g_seq (fun K10 hK10 => ?_)
      refine g_region ?_
      refine g_step rfl (s_val (v_move rfl) rfl rfl ?_)
      refine g_step rfl (s_val (by first | exact v_ptr_neq_nil ty170 rfl rfl rfl | exact v_nil_neq_nil ty170 rfl rfl | exact v_ptrO_neq ty170 rfl rfl) rfl rfl ?_)
      refine g_nil ?_
      refine g_next hK10 ?_
      refine g_cond rfl (fun hc75 => ?_) (fun hc75 => ?_)
      ·
       try simp only [decide_eq_true_eq, decide_eq_false_iff_not, Bool.not_eq_true', Bool.not_eq_false', Bool.not_eq_eq_eq_not, Bool.not_true, Bool.not_false, Bool.and_eq_true, Bool.or_eq_true, Bool.or_eq_false_iff, beq_iff_eq, beq_eq_false_iff_ne, ne_eq, Int.not_lt, Int.not_le, Decidable.not_not] at hc75
       refine g_region ?_
       refine g_step rfl (s_val (v_move rfl) rfl rfl ?_)
       refine g_step rfl (s_val (v_slice_imm (lo := 1) (hi := a'.length) (m := (a'.tail.map encR)) ty64 ty135 rfl rfl rfl (by first | rfl | (exact (rfl : (0 : Int) = ((0 : Nat) : Int))) | omega | (simp <;> omega)) (by simp) (by have := headX_pos hc75; omega) (by simp) (by refine Even.map _ ?_ _; intro _; rfl) (tail_eq a' encR)) rfl rfl ?_)
       refine g_step rfl (s_val (v_assign rfl) rfl rfl ?_)
       refine g_nil ?_
       first | refine g_keep [0, 1, 2, 7, 9] [] [] (keep_cons rfl (keep_cons rfl (keep_cons rfl (keep_cons rfl (keep_cons rfl keep_nil))))) lkeep_nil keep_nil rfl ?_ | refine g_keep [0, 1, 2, 7, 9] [] [] rfl rfl rfl rfl ?_
       exact g_has ⟨_, rfl, rfl, rfl, ⟨by first | (rw [nextA, if_pos hc75]; rfl) | (rw [nextA, if_neg (by rw [hc75]; simp)]; done), hown2⟩⟩
      ·
       try simp only [decide_eq_true_eq, decide_eq_false_iff_not, Bool.not_eq_true', Bool.not_eq_false', Bool.not_eq_eq_eq_not, Bool.not_true, Bool.not_false, Bool.and_eq_true, Bool.or_eq_true, Bool.or_eq_false_iff, beq_iff_eq, beq_eq_false_iff_ne, ne_eq, Int.not_lt, Int.not_le, Decidable.not_not] at hc75
       refine g_skip ?_
       first | refine g_keep [0, 1, 2, 7, 9] [] [] (keep_cons rfl (keep_cons rfl (keep_cons rfl (keep_cons rfl (keep_cons rfl keep_nil))))) lkeep_nil keep_nil rfl ?_ | refine g_keep [0, 1, 2, 7, 9] [] [] rfl rfl rfl rfl ?_
       exact g_has ⟨_, rfl, rfl, rfl, ⟨by first | (rw [nextA, if_pos hc75]; rfl) | (rw [nextA, if_neg (by rw [hc75]; simp)]; done), hown2⟩⟩
     ·
      obtain ⟨va2, rfl, rfl, rfl, hva2, hown2⟩ := hI
      subst hva2
      refine g_seq (fun K11 hK11 => ?_)
      refine g_region ?_
      refine g_step rfl (s_val (v_move rfl) rfl rfl ?_)
      refine g_step rfl (s_val (by first | exact v_ptr_neq_nil ty170 rfl rfl rfl | exact v_nil_neq_nil ty170 rfl rfl | exact v_ptrO_neq ty170 rfl rfl) rfl rfl ?_)
      refine g_nil ?_
      refine g_next hK11 ?_
      refine g_cond rfl (fun hc79 => ?_) (fun hc79 => ?_)
      ·
       try simp only [decide_eq_true_eq, decide_eq_false_iff_not, Bool.not_eq_true', Bool.not_eq_false', Bool.not_eq_eq_eq_not, Bool.not_true, Bool.not_false, Bool.and_eq_true, Bool.or_eq_true, Bool.or_eq_false_iff, beq_iff_eq, beq_eq_false_iff_ne, ne_eq, Int.not_lt, Int.not_le, Decidable.not_not] at hc79
       refine g_region ?_
       refine g_step rfl (s_val (v_move rfl) rfl rfl ?_)
       refine g_step rfl (s_val (v_slice_imm (lo := 1) (hi := b'.length) (m := (b'.tail.map encR)) ty64 ty135 rfl rfl rfl (by first | rfl | (exact (rfl : (0 : Int) = ((0 : Nat) : Int))) | omega | (simp <;> omega)) (by simp) (by have := headX_pos hc79; omega) (by simp) (by refine Even.map _ ?_ _; intro _; rfl) (tail_eq b' encR)) rfl rfl ?_)
       refine g_step rfl (s_val (v_assign rfl) rfl rfl ?_)
       refine g_nil ?_
       refine g_block_normal ?_
       first | refine g_keep [0, 1, 2, 7] [] [] (keep_cons rfl (keep_cons rfl (keep_cons rfl (keep_cons rfl keep_nil)))) lkeep_nil keep_nil rfl ?_ | refine g_keep [0, 1, 2, 7] [] [] rfl rfl rfl rfl ?_
       first | (have hB : nextB a' b' = b'.tail := if_pos hc79; rw [hB] at hk; exact g_round _ hk.1 ⟨nextA a' b', b'.tail, av2, _, rfl, rfl, rfl, rfl, hown2, hk.2⟩) | (have hB : nextB a' b' = b' := if_neg (by rw [show (headX b' a').isSome = false from hc79]; simp); rw [hB] at hk; exact g_round _ hk.1 ⟨nextA a' b', b', av2, _, rfl, rfl, rfl, rfl, hown2, hk.2⟩)
      ·
       try simp only [decide_eq_true_eq, decide_eq_false_iff_not, Bool.not_eq_true', Bool.not_eq_false', Bool.not_eq_eq_eq_not, Bool.not_true, Bool.not_false, Bool.and_eq_true, Bool.or_eq_true, Bool.or_eq_false_iff, beq_iff_eq, beq_eq_false_iff_ne, ne_eq, Int.not_lt, Int.not_le, Decidable.not_not] at hc79
       refine g_skip ?_
       refine g_block_normal ?_
       first | refine g_keep [0, 1, 2, 7] [] [] (keep_cons rfl (keep_cons rfl (keep_cons rfl (keep_cons rfl keep_nil)))) lkeep_nil keep_nil rfl ?_ | refine g_keep [0, 1, 2, 7] [] [] rfl rfl rfl rfl ?_
       first | (have hB : nextB a' b' = b'.tail := if_pos hc79; rw [hB] at hk; exact g_round _ hk.1 ⟨nextA a' b', b'.tail, av2, _, rfl, rfl, rfl, rfl, hown2, hk.2⟩) | (have hB : nextB a' b' = b' := if_neg (by rw [show (headX b' a').isSome = false from hc79]; simp); rw [hB] at hk; exact g_round _ hk.1 ⟨nextA a' b', b', av2, _, rfl, rfl, rfl, rfl, hown2, hk.2⟩)

theorem sideIO (a b : List Rc) (ff : Nat) (caps : List AV) (f : Option Rc → Option Rc → Option Int) (G : AHeap) (hla : a.length ≤ 100000) (hlb : b.length ≤ 100000) (hcall : ∀ (la lb : List Rc) (ox oy : Option Rc), Hd la ox → Hd lb oy → ¬ (ox = none ∧ oy = none) → (∀ x, ox = some x → x ∈ a) → (∀ y, oy = some y → y ∈ b) → ∀ H, G.sub H → PCalls Try.prog ff ([ptrO (encRs la) ox.isSome, ptrO (encRs lb) oy.isSome] ++ caps) H (fun v => v = .tup [(AV.int .i64) ((f ox oy).getD 0), .bool (f ox oy).isSome])) : LCalls Try.prog 99 [encRs a, encRs b, .fn (.func ff) caps] G noD (fun n r effs => OwnR n 1 r ((sideL f a b).map (AV.int .i64)) effs) := by
 refine LCalls.intro 83 fi99 rfl Try.ntmps99 rfl (fun _ h => h.elim) (fun H hH w0 hw0 => ?_)
 refine g_seq (fun K0 hK0 => ?_)
 refine g_region ?_
 refine g_step rfl (s_val (v_assign rfl) rfl rfl ?_)
 refine g_nil ?_
 refine g_next hK0 ?_
 refine g_seq (fun K1 hK1 => ?_)
 refine g_region ?_
 refine g_step rfl (s_val (v_assign rfl) rfl rfl ?_)
 refine g_nil ?_
 refine g_next hK1 ?_
 refine g_seq (fun K2 hK2 => ?_)
 refine g_block ?_
 first | refine g_keep [0, 1, 2, 7] [] [] (keep_cons rfl (keep_cons rfl (keep_cons rfl (keep_cons rfl keep_nil)))) lkeep_nil keep_nil rfl ?_ | refine g_keep [0, 1, 2, 7] [] [] rfl rfl rfl rfl ?_
 refine g_loop (fun n env L B G => ∃ (a' b' : List Rc) (av : AV) (acc : List Int), n = a'.length + b'.length ∧ env = [(0, encRs a'), (1, encRs b'), (2, .fn (.func ff) caps), (7, av)] ∧ L = [] ∧ B = [] ∧ Own w0.heap.size 1 H av ((acc).map (AV.int .i64)) G ∧ acc ++ sideL f a' b' = sideL f a b ∧ (∀ x ∈ a', x ∈ a) ∧ (∀ x ∈ b', x ∈ b) ∧ acc.length + a'.length + b'.length ≤ a.length + b.length) (a.length + b.length) ⟨a, b, .nil0, [], rfl, rfl, rfl, rfl, Own.nil .., rfl, fun _ h => h, fun _ h => h, by simp⟩ (fun n env L B G hI => ?_)
 obtain ⟨a', b', av, acc, rfl, rfl, rfl, rfl, hown, hacc, hma, hmb, hlen⟩ := hI
 have hla' : (encRs a').view G = some (a'.map encR) := rfl
 refine g_cut (fun env L B G => env = [(0, (encRs a')), (1, (encRs b')), (2, .fn (.func ff) caps), (7, av)] ∧ L = [] ∧ B = [] ∧ (0 < a'.length ∨ 0 < b'.length) ∧ Own w0.heap.size 1 H av ((acc).map (AV.int .i64)) G) ?_ (fun env L B G hI => ?_)
 ·
  refine g_seq (fun K3 hK3 => ?_)
  refine g_region ?_
  refine g_step rfl (s_val (v_move rfl) rfl rfl ?_)
  refine g_step rfl (s_val (v_len ty64 rfl (by first | rfl | assumption) (by first | exact List.length_map .. | rfl)) rfl rfl ?_)
  refine g_step rfl (s_val (v_gtr rfl rfl) rfl rfl ?_)
  refine g_step rfl (s_val (v_move rfl) rfl rfl ?_)
  refine g_split 15 rfl (fun hg15 => ?_) (fun hg15 => ?_)
  ·
   try simp only [decide_eq_true_eq, decide_eq_false_iff_not, Bool.not_eq_true', Bool.not_eq_false', Bool.not_eq_eq_eq_not, Bool.not_true, Bool.not_false, Bool.and_eq_true, Bool.or_eq_true, Bool.or_eq_false_iff, beq_iff_eq, beq_eq_false_iff_ne, ne_eq, Int.not_lt, Int.not_le, Decidable.not_not] at hg15
   refine g_step_no (j := 3) (t := 15) rfl rfl rfl rfl rfl rfl rfl ?_
   refine g_step_no (j := 3) (t := 15) rfl rfl rfl rfl rfl rfl rfl ?_
   refine g_step_no (j := 3) (t := 15) rfl rfl rfl rfl rfl rfl rfl ?_
   refine g_step rfl (s_val (v_pick_t rfl rfl) rfl rfl ?_)
   refine g_nil ?_
   refine g_next hK3 ?_
   refine g_cond rfl (fun _ => ?_) (fun h => by cases h)
   refine g_skip ?_
   first | refine g_keep [0, 1, 2, 7] [] [] (keep_cons rfl (keep_cons rfl (keep_cons rfl (keep_cons rfl keep_nil)))) lkeep_nil keep_nil rfl ?_ | refine g_keep [0, 1, 2, 7] [] [] rfl rfl rfl rfl ?_
   exact g_has ⟨rfl, rfl, rfl, ⟨by first | (left; omega) | (right; omega), hown⟩⟩
  ·
   try simp only [decide_eq_true_eq, decide_eq_false_iff_not, Bool.not_eq_true', Bool.not_eq_false', Bool.not_eq_eq_eq_not, Bool.not_true, Bool.not_false, Bool.and_eq_true, Bool.or_eq_true, Bool.or_eq_false_iff, beq_iff_eq, beq_eq_false_iff_ne, ne_eq, Int.not_lt, Int.not_le, Decidable.not_not] at hg15
   refine g_step_yes (j := 3) (t := 15) rfl rfl rfl rfl (s_val (v_move rfl) rfl rfl ?_)
   refine g_step_yes (j := 3) (t := 15) rfl rfl rfl rfl (s_val (v_len ty64 rfl (by first | rfl | assumption) (by first | exact List.length_map .. | rfl)) rfl rfl ?_)
   refine g_step_yes (j := 3) (t := 15) rfl rfl rfl rfl (s_val (v_gtr rfl rfl) rfl rfl ?_)
   refine g_step rfl (s_val (v_pick_f rfl rfl) rfl rfl ?_)
   refine g_nil ?_
   refine g_next hK3 ?_
   refine g_cond rfl (fun hc19 => ?_) (fun hc19 => ?_)
   ·
    try simp only [decide_eq_true_eq, decide_eq_false_iff_not, Bool.not_eq_true', Bool.not_eq_false', Bool.not_eq_eq_eq_not, Bool.not_true, Bool.not_false, Bool.and_eq_true, Bool.or_eq_true, Bool.or_eq_false_iff, beq_iff_eq, beq_eq_false_iff_ne, ne_eq, Int.not_lt, Int.not_le, Decidable.not_not] at hc19
    refine g_skip ?_
    first | refine g_keep [0, 1, 2, 7] [] [] (keep_cons rfl (keep_cons rfl (keep_cons rfl (keep_cons rfl keep_nil)))) lkeep_nil keep_nil rfl ?_ | refine g_keep [0, 1, 2, 7] [] [] rfl rfl rfl rfl ?_
    exact g_has ⟨rfl, rfl, rfl, ⟨by first | (left; omega) | (right; omega), hown⟩⟩
   ·
    try simp only [decide_eq_true_eq, decide_eq_false_iff_not, Bool.not_eq_true', Bool.not_eq_false', Bool.not_eq_eq_eq_not, Bool.not_true, Bool.not_false, Bool.and_eq_true, Bool.or_eq_true, Bool.or_eq_false_iff, beq_iff_eq, beq_eq_false_iff_ne, ne_eq, Int.not_lt, Int.not_le, Decidable.not_not] at hc19
    skip
    refine g_exit ?_
    refine g_then_exit ?_
    refine g_then_exit ?_
    refine g_block_same ?_
    refine g_next hK2 ?_
    refine g_seq (fun K4 hK4 => ?_)
    refine g_region ?_
    obtain ⟨e, he1, he2, he3⟩ := hown.effs
    have hfin : acc = sideL f a b := by rw [← hacc, show a' = [] from List.eq_nil_of_length_eq_zero (by omega), show b' = [] from List.eq_nil_of_length_eq_zero (by omega), sideL_nil, List.append_nil]
    refine g_step rfl (s_val (v_move rfl) rfl rfl ?_)
    refine g_step rfl (s_val (v_assign rfl) rfl rfl ?_)
    refine g_nil ?_
    refine g_next hK4 ?_
    refine g_ret ?_
    refine g_end1 (.inl rfl) Try.results99 (.tmp rfl) e (ASub.refl _) (by rw [he3]; exact AHeap.sub_refl _) (fun q hq => .inr (he2 q hq)) (by rw [← hfin]; exact he1)
 ·
  obtain ⟨rfl, rfl, rfl, hne, hown⟩ := hI
  have hk := side_keep hne hacc hma hmb hlen
  refine g_block ?_
  refine g_seq (fun K5 hK5 => ?_)
  refine g_region ?_
  refine g_step rfl (s_val (v_assign rfl) rfl rfl ?_)
  refine g_step rfl (s_val (v_assign rfl) rfl rfl ?_)
  refine g_nil ?_
  refine g_next hK5 ?_
  refine g_cut (fun env L B G => ∃ (px : AV), env = [(0, (encRs a')), (1, (encRs b')), (2, .fn (.func ff) caps), (7, av), (8, px), (9, .nilp)] ∧ L = [] ∧ B = [] ∧ px = ptrO (encRs a') (headX a' b').isSome ∧ Own w0.heap.size 1 H av ((acc).map (AV.int .i64)) G) ?_ (fun env L B G hI => ?_)
  ·
   refine g_seq (fun K6 hK6 => ?_)
   refine g_draw (n := 19) (fun j => !([] : List Nat).contains j) rfl rfl ?_
   skip
   refine m_take 0 false rfl rfl (by kernel_rfl) (by kernel_rfl) (by kernel_rfl) (fun _ _ _ _ h => h) (v_move rfl) rfl rfl ?_
   refine m_take 1 false rfl rfl (by kernel_rfl) (by kernel_rfl) (by kernel_rfl) (fun _ _ _ _ h => h) (v_len ty64 rfl (by first | rfl | assumption) (by first | exact List.length_map .. | rfl)) rfl rfl ?_
   refine m_take 2 false rfl rfl (by kernel_rfl) (by kernel_rfl) (by kernel_rfl) (fun _ _ _ _ h => h) (v_eql rfl rfl) rfl rfl ?_
   refine m_take 3 false rfl rfl (by kernel_rfl) (by kernel_rfl) (by kernel_rfl) (fun _ _ _ _ h => h) (v_move rfl) rfl rfl ?_
   refine m_split 23 rfl (fun hg23 => ?_) (fun hg23 => ?_)
   ·
    try simp only [decide_eq_true_eq, decide_eq_false_iff_not, Bool.not_eq_true', Bool.not_eq_false', Bool.not_eq_eq_eq_not, Bool.not_true, Bool.not_false, Bool.and_eq_true, Bool.or_eq_true, Bool.or_eq_false_iff, beq_iff_eq, beq_eq_false_iff_ne, ne_eq, Int.not_lt, Int.not_le, Decidable.not_not] at hg23
    refine m_take_no (j := 3) (t := 23) 4 rfl rfl rfl rfl rfl rfl (by kernel_rfl) (by kernel_rfl) (by kernel_rfl) (fun _ _ _ _ h => h) rfl rfl ?_
    refine m_take_no (j := 3) (t := 23) 5 rfl rfl rfl rfl rfl rfl (by kernel_rfl) (by kernel_rfl) (by kernel_rfl) (fun _ _ _ _ h => h) rfl rfl ?_
    refine m_take_no (j := 3) (t := 23) 6 rfl rfl rfl rfl rfl rfl (by kernel_rfl) (by kernel_rfl) (by kernel_rfl) (fun _ _ _ _ h => h) rfl rfl ?_
    refine m_take_no (j := 3) (t := 23) 7 rfl rfl rfl rfl rfl rfl (by kernel_rfl) (by kernel_rfl) (by kernel_rfl) (fun _ _ _ _ h => h) rfl rfl ?_
    refine m_take_und (j := 7) (t := 27) 8 rfl rfl rfl rfl rfl (by kernel_rfl) (by kernel_rfl) (by kernel_rfl) (fun _ _ _ _ h => h) rfl rfl ?_
    refine m_take_und (j := 7) (t := 27) 9 rfl rfl rfl rfl rfl (by kernel_rfl) (by kernel_rfl) (by kernel_rfl) (fun _ _ _ _ h => h) rfl rfl ?_
    refine m_take_und (j := 7) (t := 27) 10 rfl rfl rfl rfl rfl (by kernel_rfl) (by kernel_rfl) (by kernel_rfl) (fun _ _ _ _ h => h) rfl rfl ?_
    refine m_take_und (j := 7) (t := 27) 11 rfl rfl rfl rfl rfl (by kernel_rfl) (by kernel_rfl) (by kernel_rfl) (fun _ _ _ _ h => h) rfl rfl ?_
    refine m_take_und (j := 7) (t := 27) 12 rfl rfl rfl rfl rfl (by kernel_rfl) (by kernel_rfl) (by kernel_rfl) (fun _ _ _ _ h => h) rfl rfl ?_
    refine m_take_und (j := 7) (t := 27) 13 rfl rfl rfl rfl rfl (by kernel_rfl) (by kernel_rfl) (by kernel_rfl) (fun _ _ _ _ h => h) rfl rfl ?_
    refine m_take_und (j := 7) (t := 27) 14 rfl rfl rfl rfl rfl (by kernel_rfl) (by kernel_rfl) (by kernel_rfl) (fun _ _ _ _ h => h) rfl rfl ?_
    refine m_take_und (j := 7) (t := 27) 15 rfl rfl rfl rfl rfl (by kernel_rfl) (by kernel_rfl) (by kernel_rfl) (fun _ _ _ _ h => h) rfl rfl ?_
    refine m_take_und (j := 7) (t := 27) 16 rfl rfl rfl rfl rfl (by kernel_rfl) (by kernel_rfl) (by kernel_rfl) (fun _ _ _ _ h => h) rfl rfl ?_
    refine m_take_no (j := 3) (t := 23) 17 rfl rfl rfl rfl rfl rfl (by kernel_rfl) (by kernel_rfl) (by kernel_rfl) (fun _ _ _ _ h => h) rfl rfl ?_
    refine m_take 18 false rfl rfl (by kernel_rfl) (by kernel_rfl) (by kernel_rfl) (fun _ _ _ _ h => h) (v_pick_t rfl rfl) rfl rfl ?_
    refine m_done (by kernel_rfl) ?_
    refine g_next hK6 ?_
    first | refine g_keep [0, 1, 2, 7, 8, 9, 38] [] [] (keep_cons rfl (keep_cons rfl (keep_cons rfl (keep_cons rfl (keep_cons rfl (keep_cons rfl (keep_cons rfl keep_nil))))))) lkeep_nil keep_nil rfl ?_ | refine g_keep [0, 1, 2, 7, 8, 9, 38] [] [] rfl rfl rfl rfl ?_
    refine g_cond rfl (fun _ => ?_) (fun h => by cases h)
    refine g_region ?_
    obtain ⟨x5, hx5⟩ := get_some (l := a') (k := 0) (by omega)
    refine g_step rfl (s_val (v_move rfl) rfl rfl ?_)
    refine g_step rfl (s_val (v_indexAddr ty64 ty135 rfl rfl (by first | rfl | assumption) (by first | rfl | exact (rfl : (0 : Int) = ((0 : Nat) : Int)) | exact (Int.toNat_of_nonneg (by omega)).symm) (map_get hx5) rfl) rfl rfl ?_)
    refine g_step rfl (s_val (v_assign rfl) rfl rfl ?_)
    refine g_nil ?_
    first | refine g_keep [0, 1, 2, 7, 8, 9] [] [] (keep_cons rfl (keep_cons rfl (keep_cons rfl (keep_cons rfl (keep_cons rfl (keep_cons rfl keep_nil)))))) lkeep_nil keep_nil rfl ?_ | refine g_keep [0, 1, 2, 7, 8, 9] [] [] rfl rfl rfl rfl ?_
    exact g_has ⟨_, rfl, rfl, rfl, ⟨by first | (rw [hX1 (by omega) (by omega)]; rfl) | (rw [hX0 (by omega)]; rfl) | (rw [hX2 hx hy, decide_eq_true (by omega)]; rfl) | (rw [hX2 hx hy, decide_eq_false (by omega)]; rfl), hown⟩⟩
   ·
    try simp only [decide_eq_true_eq, decide_eq_false_iff_not, Bool.not_eq_true', Bool.not_eq_false', Bool.not_eq_eq_eq_not, Bool.not_true, Bool.not_false, Bool.and_eq_true, Bool.or_eq_true, Bool.or_eq_false_iff, beq_iff_eq, beq_eq_false_iff_ne, ne_eq, Int.not_lt, Int.not_le, Decidable.not_not] at hg23
    obtain ⟨y, hy⟩ := get_some (l := b') (k := 0) (by omega)
    refine m_take_yes (j := 3) (t := 23) 4 false rfl rfl rfl rfl rfl (by kernel_rfl) (by kernel_rfl) (by kernel_rfl) (fun _ _ _ _ h => h) (v_move rfl) rfl rfl ?_
    refine m_take_yes (j := 3) (t := 23) 5 false rfl rfl rfl rfl rfl (by kernel_rfl) (by kernel_rfl) (by kernel_rfl) (fun _ _ _ _ h => h) (v_len ty64 rfl (by first | rfl | assumption) (by first | exact List.length_map .. | rfl)) rfl rfl ?_
    refine m_take_yes (j := 3) (t := 23) 6 false rfl rfl rfl rfl rfl (by kernel_rfl) (by kernel_rfl) (by kernel_rfl) (fun _ _ _ _ h => h) (v_gtr rfl rfl) rfl rfl ?_
    refine m_take_yes (j := 3) (t := 23) 7 false rfl rfl rfl rfl rfl (by kernel_rfl) (by kernel_rfl) (by kernel_rfl) (fun _ _ _ _ h => h) (v_move rfl) rfl rfl ?_
    refine m_split 27 rfl (fun hg27 => ?_) (fun hg27 => ?_)
    ·
     try simp only [decide_eq_true_eq, decide_eq_false_iff_not, Bool.not_eq_true', Bool.not_eq_false', Bool.not_eq_eq_eq_not, Bool.not_true, Bool.not_false, Bool.and_eq_true, Bool.or_eq_true, Bool.or_eq_false_iff, beq_iff_eq, beq_eq_false_iff_ne, ne_eq, Int.not_lt, Int.not_le, Decidable.not_not] at hg27
     obtain ⟨x, hx⟩ := get_some (l := a') (k := 0) (by omega)
     refine m_take_yes (j := 7) (t := 27) 8 false rfl rfl rfl rfl rfl (by kernel_rfl) (by kernel_rfl) (by kernel_rfl) (fun _ _ _ _ h => h) (v_move rfl) rfl rfl ?_
     refine m_take_yes (j := 7) (t := 27) 9 false rfl rfl rfl rfl rfl (by kernel_rfl) (by kernel_rfl) (by kernel_rfl) (fun _ _ _ _ h => h) (v_indexAddr ty64 ty135 rfl rfl (by first | rfl | assumption) (by first | rfl | exact (rfl : (0 : Int) = ((0 : Nat) : Int)) | exact (Int.toNat_of_nonneg (by omega)).symm) (map_get hx) rfl) rfl rfl ?_
     refine m_take_yes (j := 7) (t := 27) 10 false rfl rfl rfl rfl rfl (by kernel_rfl) (by kernel_rfl) (by kernel_rfl) (fun _ _ _ _ h => h) (by first | exact v_fieldAddr ty135 fo135_0 ty3 rfl | exact v_fieldAddr_box ty135 fo135_0 ty3 rfl) rfl rfl ?_
     refine m_take_yes (j := 7) (t := 27) 11 true rfl rfl rfl rfl rfl (by kernel_rfl) (by kernel_rfl) (by kernel_rfl) (fun _ _ _ _ h => h) (by first | exact v_load ty3 rfl rfl (by first | rfl | assumption) (map_get hx) rfl | exact v_load_box ty3 rfl rfl (by assumption) rfl) rfl rfl ?_
     refine m_take_yes (j := 7) (t := 27) 12 false rfl rfl rfl rfl rfl (by kernel_rfl) (by kernel_rfl) (by kernel_rfl) (fun _ _ _ _ h => h) (v_move rfl) rfl rfl ?_
     refine m_take_yes (j := 7) (t := 27) 13 false rfl rfl rfl rfl rfl (by kernel_rfl) (by kernel_rfl) (by kernel_rfl) (fun _ _ _ _ h => h) (v_indexAddr ty64 ty135 rfl rfl (by first | rfl | assumption) (by first | rfl | exact (rfl : (0 : Int) = ((0 : Nat) : Int)) | exact (Int.toNat_of_nonneg (by omega)).symm) (map_get hy) rfl) rfl rfl ?_
     refine m_take_yes (j := 7) (t := 27) 14 false rfl rfl rfl rfl rfl (by kernel_rfl) (by kernel_rfl) (by kernel_rfl) (fun _ _ _ _ h => h) (by first | exact v_fieldAddr ty135 fo135_0 ty3 rfl | exact v_fieldAddr_box ty135 fo135_0 ty3 rfl) rfl rfl ?_
     refine m_take_yes (j := 7) (t := 27) 15 true rfl rfl rfl rfl rfl (by kernel_rfl) (by kernel_rfl) (by kernel_rfl) (fun _ _ _ _ h => h) (by first | exact v_load ty3 rfl rfl (by first | rfl | assumption) (map_get hy) rfl | exact v_load_box ty3 rfl rfl (by assumption) rfl) rfl rfl ?_
     refine m_take_yes (j := 7) (t := 27) 16 false rfl rfl rfl rfl rfl (by kernel_rfl) (by kernel_rfl) (by kernel_rfl) (fun _ _ _ _ h => h) (v_leq rfl rfl) rfl rfl ?_
     refine m_take_yes (j := 3) (t := 23) 17 false rfl rfl rfl rfl rfl (by kernel_rfl) (by kernel_rfl) (by kernel_rfl) (fun _ _ _ _ h => h) (v_pick_t rfl rfl) rfl rfl ?_
     refine m_take 18 false rfl rfl (by kernel_rfl) (by kernel_rfl) (by kernel_rfl) (fun _ _ _ _ h => h) (v_pick_f rfl rfl) rfl rfl ?_
     refine m_done (by kernel_rfl) ?_
     refine g_next hK6 ?_
     first | refine g_keep [0, 1, 2, 7, 8, 9, 38] [] [] (keep_cons rfl (keep_cons rfl (keep_cons rfl (keep_cons rfl (keep_cons rfl (keep_cons rfl (keep_cons rfl keep_nil))))))) lkeep_nil keep_nil rfl ?_ | refine g_keep [0, 1, 2, 7, 8, 9, 38] [] [] rfl rfl rfl rfl ?_
     refine g_cond rfl (fun hc38 => ?_) (fun hc38 => ?_)
     ·
      try simp only [decide_eq_true_eq, decide_eq_false_iff_not, Bool.not_eq_true', Bool.not_eq_false', Bool.not_eq_eq_eq_not, Bool.not_true, Bool.not_false, Bool.and_eq_true, Bool.or_eq_true, Bool.or_eq_false_iff, beq_iff_eq, beq_eq_false_iff_ne, ne_eq, Int.not_lt, Int.not_le, Decidable.not_not] at hc38
      refine g_region ?_
      obtain ⟨x5, hx5⟩ := get_some (l := a') (k := 0) (by omega)
      refine g_step rfl (s_val (v_move rfl) rfl rfl ?_)
      refine g_step rfl (s_val (v_indexAddr ty64 ty135 rfl rfl (by first | rfl | assumption) (by first | rfl | exact (rfl : (0 : Int) = ((0 : Nat) : Int)) | exact (Int.toNat_of_nonneg (by omega)).symm) (map_get hx5) rfl) rfl rfl ?_)
      refine g_step rfl (s_val (v_assign rfl) rfl rfl ?_)
      refine g_nil ?_
      first | refine g_keep [0, 1, 2, 7, 8, 9] [] [] (keep_cons rfl (keep_cons rfl (keep_cons rfl (keep_cons rfl (keep_cons rfl (keep_cons rfl keep_nil)))))) lkeep_nil keep_nil rfl ?_ | refine g_keep [0, 1, 2, 7, 8, 9] [] [] rfl rfl rfl rfl ?_
      exact g_has ⟨_, rfl, rfl, rfl, ⟨by first | (rw [hX1 (by omega) (by omega)]; rfl) | (rw [hX0 (by omega)]; rfl) | (rw [hX2 hx hy, decide_eq_true (by omega)]; rfl) | (rw [hX2 hx hy, decide_eq_false (by omega)]; rfl), hown⟩⟩
     ·
      try simp only [decide_eq_true_eq, decide_eq_false_iff_not, Bool.not_eq_true', Bool.not_eq_false', Bool.not_eq_eq_eq_not, Bool.not_true, Bool.not_false, Bool.and_eq_true, Bool.or_eq_true, Bool.or_eq_false_iff, beq_iff_eq, beq_eq_false_iff_ne, ne_eq, Int.not_lt, Int.not_le, Decidable.not_not] at hc38
      refine g_skip ?_
      first | refine g_keep [0, 1, 2, 7, 8, 9] [] [] (keep_cons rfl (keep_cons rfl (keep_cons rfl (keep_cons rfl (keep_cons rfl (keep_cons rfl keep_nil)))))) lkeep_nil keep_nil rfl ?_ | refine g_keep [0, 1, 2, 7, 8, 9] [] [] rfl rfl rfl rfl ?_
      exact g_has ⟨_, rfl, rfl, rfl, ⟨by first | (rw [hX1 (by omega) (by omega)]; rfl) | (rw [hX0 (by omega)]; rfl) | (rw [hX2 hx hy, decide_eq_true (by omega)]; rfl) | (rw [hX2 hx hy, decide_eq_false (by omega)]; rfl), hown⟩⟩
    ·
     try simp only [decide_eq_true_eq, decide_eq_false_iff_not, Bool.not_eq_true', Bool.not_eq_false', Bool.not_eq_eq_eq_not, Bool.not_true, Bool.not_false, Bool.and_eq_true, Bool.or_eq_true, Bool.or_eq_false_iff, beq_iff_eq, beq_eq_false_iff_ne, ne_eq, Int.not_lt, Int.not_le, Decidable.not_not] at hg27
     refine m_take_no (j := 7) (t := 27) 8 rfl rfl rfl rfl rfl rfl (by kernel_rfl) (by kernel_rfl) (by kernel_rfl) (fun _ _ _ _ h => h) rfl rfl ?_
     refine m_take_no (j := 7) (t := 27) 9 rfl rfl rfl rfl rfl rfl (by kernel_rfl) (by kernel_rfl) (by kernel_rfl) (fun _ _ _ _ h => h) rfl rfl ?_
     refine m_take_no (j := 7) (t := 27) 10 rfl rfl rfl rfl rfl rfl (by kernel_rfl) (by kernel_rfl) (by kernel_rfl) (fun _ _ _ _ h => h) rfl rfl ?_
     refine m_take_no (j := 7) (t := 27) 11 rfl rfl rfl rfl rfl rfl (by kernel_rfl) (by kernel_rfl) (by kernel_rfl) (fun _ _ _ _ h => h) rfl rfl ?_
     refine m_take_no (j := 7) (t := 27) 12 rfl rfl rfl rfl rfl rfl (by kernel_rfl) (by kernel_rfl) (by kernel_rfl) (fun _ _ _ _ h => h) rfl rfl ?_
     refine m_take_no (j := 7) (t := 27) 13 rfl rfl rfl rfl rfl rfl (by kernel_rfl) (by kernel_rfl) (by kernel_rfl) (fun _ _ _ _ h => h) rfl rfl ?_
     refine m_take_no (j := 7) (t := 27) 14 rfl rfl rfl rfl rfl rfl (by kernel_rfl) (by kernel_rfl) (by kernel_rfl) (fun _ _ _ _ h => h) rfl rfl ?_
     refine m_take_no (j := 7) (t := 27) 15 rfl rfl rfl rfl rfl rfl (by kernel_rfl) (by kernel_rfl) (by kernel_rfl) (fun _ _ _ _ h => h) rfl rfl ?_
     refine m_take_no (j := 7) (t := 27) 16 rfl rfl rfl rfl rfl rfl (by kernel_rfl) (by kernel_rfl) (by kernel_rfl) (fun _ _ _ _ h => h) rfl rfl ?_
     refine m_take_yes (j := 3) (t := 23) 17 false rfl rfl rfl rfl rfl (by kernel_rfl) (by kernel_rfl) (by kernel_rfl) (fun _ _ _ _ h => h) (v_pick_f rfl rfl) rfl rfl ?_
     refine m_take 18 false rfl rfl (by kernel_rfl) (by kernel_rfl) (by kernel_rfl) (fun _ _ _ _ h => h) (v_pick_f rfl rfl) rfl rfl ?_
     refine m_done (by kernel_rfl) ?_
     refine g_next hK6 ?_
     first | refine g_keep [0, 1, 2, 7, 8, 9, 38] [] [] (keep_cons rfl (keep_cons rfl (keep_cons rfl (keep_cons rfl (keep_cons rfl (keep_cons rfl (keep_cons rfl keep_nil))))))) lkeep_nil keep_nil rfl ?_ | refine g_keep [0, 1, 2, 7, 8, 9, 38] [] [] rfl rfl rfl rfl ?_
     refine g_cond rfl (fun h => by cases h) (fun _ => ?_)
     refine g_skip ?_
     first | refine g_keep [0, 1, 2, 7, 8, 9] [] [] (keep_cons rfl (keep_cons rfl (keep_cons rfl (keep_cons rfl (keep_cons rfl (keep_cons rfl keep_nil)))))) lkeep_nil keep_nil rfl ?_ | refine g_keep [0, 1, 2, 7, 8, 9] [] [] rfl rfl rfl rfl ?_
     exact g_has ⟨_, rfl, rfl, rfl, ⟨by first | (rw [hX1 (by omega) (by omega)]; rfl) | (rw [hX0 (by omega)]; rfl) | (rw [hX2 hx hy, decide_eq_true (by omega)]; rfl) | (rw [hX2 hx hy, decide_eq_false (by omega)]; rfl), hown⟩⟩
  ·
   obtain ⟨px, rfl, rfl, rfl, hpx, hown⟩ := hI
   subst hpx
   refine g_cut (fun env L B G => ∃ (py : AV), env = [(0, (encRs a')), (1, (encRs b')), (2, .fn (.func ff) caps), (7, av), (8, (ptrO (encRs a') (headX a' b').isSome)), (9, py)] ∧ L = [] ∧ B = [] ∧ py = ptrO (encRs b') (headY a' b').isSome ∧ Own w0.heap.size 1 H av ((acc).map (AV.int .i64)) G) ?_ (fun env L B G hI => ?_)
   ·
    refine g_seq (fun K7 hK7 => ?_)
    refine g_draw (n := 19) (fun j => !([] : List Nat).contains j) rfl rfl ?_
    refine m_take 0 false rfl rfl (by kernel_rfl) (by kernel_rfl) (by kernel_rfl) (fun _ _ _ _ h => h) (v_move rfl) rfl rfl ?_
    refine m_take 1 false rfl rfl (by kernel_rfl) (by kernel_rfl) (by kernel_rfl) (fun _ _ _ _ h => h) (v_len ty64 rfl (by first | rfl | assumption) (by first | exact List.length_map .. | rfl)) rfl rfl ?_
    refine m_take 2 false rfl rfl (by kernel_rfl) (by kernel_rfl) (by kernel_rfl) (fun _ _ _ _ h => h) (v_eql rfl rfl) rfl rfl ?_
    refine m_take 3 false rfl rfl (by kernel_rfl) (by kernel_rfl) (by kernel_rfl) (fun _ _ _ _ h => h) (v_move rfl) rfl rfl ?_
    refine m_split 44 rfl (fun hg44 => ?_) (fun hg44 => ?_)
    ·
     try simp only [decide_eq_true_eq, decide_eq_false_iff_not, Bool.not_eq_true', Bool.not_eq_false', Bool.not_eq_eq_eq_not, Bool.not_true, Bool.not_false, Bool.and_eq_true, Bool.or_eq_true, Bool.or_eq_false_iff, beq_iff_eq, beq_eq_false_iff_ne, ne_eq, Int.not_lt, Int.not_le, Decidable.not_not] at hg44
     refine m_take_no (j := 3) (t := 44) 4 rfl rfl rfl rfl rfl rfl (by kernel_rfl) (by kernel_rfl) (by kernel_rfl) (fun _ _ _ _ h => h) rfl rfl ?_
     refine m_take_no (j := 3) (t := 44) 5 rfl rfl rfl rfl rfl rfl (by kernel_rfl) (by kernel_rfl) (by kernel_rfl) (fun _ _ _ _ h => h) rfl rfl ?_
     refine m_take_no (j := 3) (t := 44) 6 rfl rfl rfl rfl rfl rfl (by kernel_rfl) (by kernel_rfl) (by kernel_rfl) (fun _ _ _ _ h => h) rfl rfl ?_
     refine m_take_no (j := 3) (t := 44) 7 rfl rfl rfl rfl rfl rfl (by kernel_rfl) (by kernel_rfl) (by kernel_rfl) (fun _ _ _ _ h => h) rfl rfl ?_
     refine m_take_und (j := 7) (t := 48) 8 rfl rfl rfl rfl rfl (by kernel_rfl) (by kernel_rfl) (by kernel_rfl) (fun _ _ _ _ h => h) rfl rfl ?_
     refine m_take_und (j := 7) (t := 48) 9 rfl rfl rfl rfl rfl (by kernel_rfl) (by kernel_rfl) (by kernel_rfl) (fun _ _ _ _ h => h) rfl rfl ?_
     refine m_take_und (j := 7) (t := 48) 10 rfl rfl rfl rfl rfl (by kernel_rfl) (by kernel_rfl) (by kernel_rfl) (fun _ _ _ _ h => h) rfl rfl ?_
     refine m_take_und (j := 7) (t := 48) 11 rfl rfl rfl rfl rfl (by kernel_rfl) (by kernel_rfl) (by kernel_rfl) (fun _ _ _ _ h => h) rfl rfl ?_
     refine m_take_und (j := 7) (t := 48) 12 rfl rfl rfl rfl rfl (by kernel_rfl) (by kernel_rfl) (by kernel_rfl) (fun _ _ _ _ h => h) rfl rfl ?_
     refine m_take_und (j := 7) (t := 48) 13 rfl rfl rfl rfl rfl (by kernel_rfl) (by kernel_rfl) (by kernel_rfl) (fun _ _ _ _ h => h) rfl rfl ?_
     refine m_take_und (j := 7) (t := 48) 14 rfl rfl rfl rfl rfl (by kernel_rfl) (by kernel_rfl) (by kernel_rfl) (fun _ _ _ _ h => h) rfl rfl ?_
     refine m_take_und (j := 7) (t := 48) 15 rfl rfl rfl rfl rfl (by kernel_rfl) (by kernel_rfl) (by kernel_rfl) (fun _ _ _ _ h => h) rfl rfl ?_
     refine m_take_und (j := 7) (t := 48) 16 rfl rfl rfl rfl rfl (by kernel_rfl) (by kernel_rfl) (by kernel_rfl) (fun _ _ _ _ h => h) rfl rfl ?_
     refine m_take_no (j := 3) (t := 44) 17 rfl rfl rfl rfl rfl rfl (by kernel_rfl) (by kernel_rfl) (by kernel_rfl) (fun _ _ _ _ h => h) rfl rfl ?_
     refine m_take 18 false rfl rfl (by kernel_rfl) (by kernel_rfl) (by kernel_rfl) (fun _ _ _ _ h => h) (v_pick_t rfl rfl) rfl rfl ?_
     refine m_done (by kernel_rfl) ?_
     refine g_next hK7 ?_
     first | refine g_keep [0, 1, 2, 7, 8, 9, 59] [] [] (keep_cons rfl (keep_cons rfl (keep_cons rfl (keep_cons rfl (keep_cons rfl (keep_cons rfl (keep_cons rfl keep_nil))))))) lkeep_nil keep_nil rfl ?_ | refine g_keep [0, 1, 2, 7, 8, 9, 59] [] [] rfl rfl rfl rfl ?_
     refine g_cond rfl (fun _ => ?_) (fun h => by cases h)
     refine g_region ?_
     obtain ⟨y5, hy5⟩ := get_some (l := b') (k := 0) (by omega)
     refine g_step rfl (s_val (v_move rfl) rfl rfl ?_)
     refine g_step rfl (s_val (v_indexAddr ty64 ty135 rfl rfl (by first | rfl | assumption) (by first | rfl | exact (rfl : (0 : Int) = ((0 : Nat) : Int)) | exact (Int.toNat_of_nonneg (by omega)).symm) (map_get hy5) rfl) rfl rfl ?_)
     refine g_step rfl (s_val (v_assign rfl) rfl rfl ?_)
     refine g_nil ?_
     first | refine g_keep [0, 1, 2, 7, 8, 9] [] [] (keep_cons rfl (keep_cons rfl (keep_cons rfl (keep_cons rfl (keep_cons rfl (keep_cons rfl keep_nil)))))) lkeep_nil keep_nil rfl ?_ | refine g_keep [0, 1, 2, 7, 8, 9] [] [] rfl rfl rfl rfl ?_
     exact g_has ⟨_, rfl, rfl, rfl, ⟨by first | (rw [headY, hX1 (by omega) (by omega)]; rfl) | (rw [headY, hX0 (by omega)]; rfl) | (rw [headY, hX2 hy hx, decide_eq_true (by omega)]; rfl) | (rw [headY, hX2 hy hx, decide_eq_false (by omega)]; rfl), hown⟩⟩
    ·
     try simp only [decide_eq_true_eq, decide_eq_false_iff_not, Bool.not_eq_true', Bool.not_eq_false', Bool.not_eq_eq_eq_not, Bool.not_true, Bool.not_false, Bool.and_eq_true, Bool.or_eq_true, Bool.or_eq_false_iff, beq_iff_eq, beq_eq_false_iff_ne, ne_eq, Int.not_lt, Int.not_le, Decidable.not_not] at hg44
     obtain ⟨x, hx⟩ := get_some (l := a') (k := 0) (by omega)
     refine m_take_yes (j := 3) (t := 44) 4 false rfl rfl rfl rfl rfl (by kernel_rfl) (by kernel_rfl) (by kernel_rfl) (fun _ _ _ _ h => h) (v_move rfl) rfl rfl ?_
     refine m_take_yes (j := 3) (t := 44) 5 false rfl rfl rfl rfl rfl (by kernel_rfl) (by kernel_rfl) (by kernel_rfl) (fun _ _ _ _ h => h) (v_len ty64 rfl (by first | rfl | assumption) (by first | exact List.length_map .. | rfl)) rfl rfl ?_
     refine m_take_yes (j := 3) (t := 44) 6 false rfl rfl rfl rfl rfl (by kernel_rfl) (by kernel_rfl) (by kernel_rfl) (fun _ _ _ _ h => h) (v_gtr rfl rfl) rfl rfl ?_
     refine m_take_yes (j := 3) (t := 44) 7 false rfl rfl rfl rfl rfl (by kernel_rfl) (by kernel_rfl) (by kernel_rfl) (fun _ _ _ _ h => h) (v_move rfl) rfl rfl ?_
     refine m_split 48 rfl (fun hg48 => ?_) (fun hg48 => ?_)
     ·
      try simp only [decide_eq_true_eq, decide_eq_false_iff_not, Bool.not_eq_true', Bool.not_eq_false', Bool.not_eq_eq_eq_not, Bool.not_true, Bool.not_false, Bool.and_eq_true, Bool.or_eq_true, Bool.or_eq_false_iff, beq_iff_eq, beq_eq_false_iff_ne, ne_eq, Int.not_lt, Int.not_le, Decidable.not_not] at hg48
      obtain ⟨y, hy⟩ := get_some (l := b') (k := 0) (by omega)
      refine m_take_yes (j := 7) (t := 48) 8 false rfl rfl rfl rfl rfl (by kernel_rfl) (by kernel_rfl) (by kernel_rfl) (fun _ _ _ _ h => h) (v_move rfl) rfl rfl ?_
      refine m_take_yes (j := 7) (t := 48) 9 false rfl rfl rfl rfl rfl (by kernel_rfl) (by kernel_rfl) (by kernel_rfl) (fun _ _ _ _ h => h) (v_indexAddr ty64 ty135 rfl rfl (by first | rfl | assumption) (by first | rfl | exact (rfl : (0 : Int) = ((0 : Nat) : Int)) | exact (Int.toNat_of_nonneg (by omega)).symm) (map_get hy) rfl) rfl rfl ?_
      refine m_take_yes (j := 7) (t := 48) 10 false rfl rfl rfl rfl rfl (by kernel_rfl) (by kernel_rfl) (by kernel_rfl) (fun _ _ _ _ h => h) (by first | exact v_fieldAddr ty135 fo135_0 ty3 rfl | exact v_fieldAddr_box ty135 fo135_0 ty3 rfl) rfl rfl ?_
      refine m_take_yes (j := 7) (t := 48) 11 true rfl rfl rfl rfl rfl (by kernel_rfl) (by kernel_rfl) (by kernel_rfl) (fun _ _ _ _ h => h) (by first | exact v_load ty3 rfl rfl (by first | rfl | assumption) (map_get hy) rfl | exact v_load_box ty3 rfl rfl (by assumption) rfl) rfl rfl ?_
      refine m_take_yes (j := 7) (t := 48) 12 false rfl rfl rfl rfl rfl (by kernel_rfl) (by kernel_rfl) (by kernel_rfl) (fun _ _ _ _ h => h) (v_move rfl) rfl rfl ?_
      refine m_take_yes (j := 7) (t := 48) 13 false rfl rfl rfl rfl rfl (by kernel_rfl) (by kernel_rfl) (by kernel_rfl) (fun _ _ _ _ h => h) (v_indexAddr ty64 ty135 rfl rfl (by first | rfl | assumption) (by first | rfl | exact (rfl : (0 : Int) = ((0 : Nat) : Int)) | exact (Int.toNat_of_nonneg (by omega)).symm) (map_get hx) rfl) rfl rfl ?_
      refine m_take_yes (j := 7) (t := 48) 14 false rfl rfl rfl rfl rfl (by kernel_rfl) (by kernel_rfl) (by kernel_rfl) (fun _ _ _ _ h => h) (by first | exact v_fieldAddr ty135 fo135_0 ty3 rfl | exact v_fieldAddr_box ty135 fo135_0 ty3 rfl) rfl rfl ?_
      refine m_take_yes (j := 7) (t := 48) 15 true rfl rfl rfl rfl rfl (by kernel_rfl) (by kernel_rfl) (by kernel_rfl) (fun _ _ _ _ h => h) (by first | exact v_load ty3 rfl rfl (by first | rfl | assumption) (map_get hx) rfl | exact v_load_box ty3 rfl rfl (by assumption) rfl) rfl rfl ?_
      refine m_take_yes (j := 7) (t := 48) 16 false rfl rfl rfl rfl rfl (by kernel_rfl) (by kernel_rfl) (by kernel_rfl) (fun _ _ _ _ h => h) (v_leq rfl rfl) rfl rfl ?_
      refine m_take_yes (j := 3) (t := 44) 17 false rfl rfl rfl rfl rfl (by kernel_rfl) (by kernel_rfl) (by kernel_rfl) (fun _ _ _ _ h => h) (v_pick_t rfl rfl) rfl rfl ?_
      refine m_take 18 false rfl rfl (by kernel_rfl) (by kernel_rfl) (by kernel_rfl) (fun _ _ _ _ h => h) (v_pick_f rfl rfl) rfl rfl ?_
      refine m_done (by kernel_rfl) ?_
      refine g_next hK7 ?_
      first | refine g_keep [0, 1, 2, 7, 8, 9, 59] [] [] (keep_cons rfl (keep_cons rfl (keep_cons rfl (keep_cons rfl (keep_cons rfl (keep_cons rfl (keep_cons rfl keep_nil))))))) lkeep_nil keep_nil rfl ?_ | refine g_keep [0, 1, 2, 7, 8, 9, 59] [] [] rfl rfl rfl rfl ?_
      refine g_cond rfl (fun hc59 => ?_) (fun hc59 => ?_)
      ·
       try simp only [decide_eq_true_eq, decide_eq_false_iff_not, Bool.not_eq_true', Bool.not_eq_false', Bool.not_eq_eq_eq_not, Bool.not_true, Bool.not_false, Bool.and_eq_true, Bool.or_eq_true, Bool.or_eq_false_iff, beq_iff_eq, beq_eq_false_iff_ne, ne_eq, Int.not_lt, Int.not_le, Decidable.not_not] at hc59
       refine g_region ?_
       obtain ⟨y5, hy5⟩ := get_some (l := b') (k := 0) (by omega)
       refine g_step rfl (s_val (v_move rfl) rfl rfl ?_)
       refine g_step rfl (s_val (v_indexAddr ty64 ty135 rfl rfl (by first | rfl | assumption) (by first | rfl | exact (rfl : (0 : Int) = ((0 : Nat) : Int)) | exact (Int.toNat_of_nonneg (by omega)).symm) (map_get hy5) rfl) rfl rfl ?_)
       refine g_step rfl (s_val (v_assign rfl) rfl rfl ?_)
       refine g_nil ?_
       first | refine g_keep [0, 1, 2, 7, 8, 9] [] [] (keep_cons rfl (keep_cons rfl (keep_cons rfl (keep_cons rfl (keep_cons rfl (keep_cons rfl keep_nil)))))) lkeep_nil keep_nil rfl ?_ | refine g_keep [0, 1, 2, 7, 8, 9] [] [] rfl rfl rfl rfl ?_
       exact g_has ⟨_, rfl, rfl, rfl, ⟨by first | (rw [headY, hX1 (by omega) (by omega)]; rfl) | (rw [headY, hX0 (by omega)]; rfl) | (rw [headY, hX2 hy hx, decide_eq_true (by omega)]; rfl) | (rw [headY, hX2 hy hx, decide_eq_false (by omega)]; rfl), hown⟩⟩
      ·
       try simp only [decide_eq_true_eq, decide_eq_false_iff_not, Bool.not_eq_true', Bool.not_eq_false', Bool.not_eq_eq_eq_not, Bool.not_true, Bool.not_false, Bool.and_eq_true, Bool.or_eq_true, Bool.or_eq_false_iff, beq_iff_eq, beq_eq_false_iff_ne, ne_eq, Int.not_lt, Int.not_le, Decidable.not_not] at hc59
       refine g_skip ?_
       first | refine g_keep [0, 1, 2, 7, 8, 9] [] [] (keep_cons rfl (keep_cons rfl (keep_cons rfl (keep_cons rfl (keep_cons rfl (keep_cons rfl keep_nil)))))) lkeep_nil keep_nil rfl ?_ | refine g_keep [0, 1, 2, 7, 8, 9] [] [] rfl rfl rfl rfl ?_
       exact g_has ⟨_, rfl, rfl, rfl, ⟨by first | (rw [headY, hX1 (by omega) (by omega)]; rfl) | (rw [headY, hX0 (by omega)]; rfl) | (rw [headY, hX2 hy hx, decide_eq_true (by omega)]; rfl) | (rw [headY, hX2 hy hx, decide_eq_false (by omega)]; rfl), hown⟩⟩
     ·
      try simp only [decide_eq_true_eq, decide_eq_false_iff_not, Bool.not_eq_true', Bool.not_eq_false', Bool.not_eq_eq_eq_not, Bool.not_true, Bool.not_false, Bool.and_eq_true, Bool.or_eq_true, Bool.or_eq_false_iff, beq_iff_eq, beq_eq_false_iff_ne, ne_eq, Int.not_lt, Int.not_le, Decidable.not_not] at hg48
      refine m_take_no (j := 7) (t := 48) 8 rfl rfl rfl rfl rfl rfl (by kernel_rfl) (by kernel_rfl) (by kernel_rfl) (fun _ _ _ _ h => h) rfl rfl ?_
      refine m_take_no (j := 7) (t := 48) 9 rfl rfl rfl rfl rfl rfl (by kernel_rfl) (by kernel_rfl) (by kernel_rfl) (fun _ _ _ _ h => h) rfl rfl ?_
      refine m_take_no (j := 7) (t := 48) 10 rfl rfl rfl rfl rfl rfl (by kernel_rfl) (by kernel_rfl) (by kernel_rfl) (fun _ _ _ _ h => h) rfl rfl ?_
      refine m_take_no (j := 7) (t := 48) 11 rfl rfl rfl rfl rfl rfl (by kernel_rfl) (by kernel_rfl) (by kernel_rfl) (fun _ _ _ _ h => h) rfl rfl ?_
      refine m_take_no (j := 7) (t := 48) 12 rfl rfl rfl rfl rfl rfl (by kernel_rfl) (by kernel_rfl) (by kernel_rfl) (fun _ _ _ _ h => h) rfl rfl ?_
      refine m_take_no (j := 7) (t := 48) 13 rfl rfl rfl rfl rfl rfl (by kernel_rfl) (by kernel_rfl) (by kernel_rfl) (fun _ _ _ _ h => h) rfl rfl ?_
      refine m_take_no (j := 7) (t := 48) 14 rfl rfl rfl rfl rfl rfl (by kernel_rfl) (by kernel_rfl) (by kernel_rfl) (fun _ _ _ _ h => h) rfl rfl ?_
      refine m_take_no (j := 7) (t := 48) 15 rfl rfl rfl rfl rfl rfl (by kernel_rfl) (by kernel_rfl) (by kernel_rfl) (fun _ _ _ _ h => h) rfl rfl ?_
      refine m_take_no (j := 7) (t := 48) 16 rfl rfl rfl rfl rfl rfl (by kernel_rfl) (by kernel_rfl) (by kernel_rfl) (fun _ _ _ _ h => h) rfl rfl ?_
      refine m_take_yes (j := 3) (t := 44) 17 false rfl rfl rfl rfl rfl (by kernel_rfl) (by kernel_rfl) (by kernel_rfl) (fun _ _ _ _ h => h) (v_pick_f rfl rfl) rfl rfl ?_
      refine m_take 18 false rfl rfl (by kernel_rfl) (by kernel_rfl) (by kernel_rfl) (fun _ _ _ _ h => h) (v_pick_f rfl rfl) rfl rfl ?_
      refine m_done (by kernel_rfl) ?_
      refine g_next hK7 ?_
      first | refine g_keep [0, 1, 2, 7, 8, 9, 59] [] [] (keep_cons rfl (keep_cons rfl (keep_cons rfl (keep_cons rfl (keep_cons rfl (keep_cons rfl (keep_cons rfl keep_nil))))))) lkeep_nil keep_nil rfl ?_ | refine g_keep [0, 1, 2, 7, 8, 9, 59] [] [] rfl rfl rfl rfl ?_
      refine g_cond rfl (fun h => by cases h) (fun _ => ?_)
      refine g_skip ?_
      first | refine g_keep [0, 1, 2, 7, 8, 9] [] [] (keep_cons rfl (keep_cons rfl (keep_cons rfl (keep_cons rfl (keep_cons rfl (keep_cons rfl keep_nil)))))) lkeep_nil keep_nil rfl ?_ | refine g_keep [0, 1, 2, 7, 8, 9] [] [] rfl rfl rfl rfl ?_
      exact g_has ⟨_, rfl, rfl, rfl, ⟨by first | (rw [headY, hX1 (by omega) (by omega)]; rfl) | (rw [headY, hX0 (by omega)]; rfl) | (rw [headY, hX2 hy hx, decide_eq_true (by omega)]; rfl) | (rw [headY, hX2 hy hx, decide_eq_false (by omega)]; rfl), hown⟩⟩
   ·
    obtain ⟨py, rfl, rfl, rfl, hpy, hown⟩ := hI
    subst hpy
    refine g_cut (fun env L B G => ∃ (av2 : AV), env = [(0, (encRs a')), (1, (encRs b')), (2, .fn (.func ff) caps), (7, av2), (8, (ptrO (encRs a') (headX a' b').isSome)), (9, (ptrO (encRs b') (headY a' b').isSome))] ∧ L = [] ∧ B = [] ∧ Own w0.heap.size 1 H av2 ((acc ++ (f (headX a' b') (headY a' b')).toList).map (AV.int .i64)) G) ?_ (fun env L B G hI => ?_)
    ·
     refine g_seq (fun K8 hK8 => ?_)
     refine g_region ?_
     refine g_step rfl (s_val (v_move rfl) rfl rfl ?_)
     refine g_step rfl (s_val (v_move rfl) rfl rfl ?_)
     refine g_step rfl (s_val (v_move rfl) rfl rfl ?_)
     refine g_step rfl (s_callp rfl rfl rfl (hcall a' b' (headX a' b') (headY a' b') (headX_hd a' b') (headY_hd a' b') (head_one (nil_or hne)) (fun x hx => hma x ((headX_hd a' b').mem hx)) (fun y hy => hmb y ((headY_hd a' b').mem hy)) _ (AHeap.sub_trans hH hown.sub)) ?_)
     rintro _ rfl
     refine g_step rfl (s_val (v_move rfl) rfl rfl ?_)
     refine g_step rfl (s_val (v_extract rfl rfl) rfl rfl ?_)
     refine g_step rfl (s_val (v_extract rfl rfl) rfl rfl ?_)
     refine g_step rfl (s_val (v_assign rfl) rfl rfl ?_)
     refine g_step rfl (s_val (v_assign rfl) rfl rfl ?_)
     refine g_nil ?_
     refine g_next hK8 ?_
     refine g_seq (fun K9 hK9 => ?_)
     refine g_region ?_
     refine g_step rfl (s_val (v_move rfl) rfl rfl ?_)
     refine g_nil ?_
     refine g_next hK9 ?_
     refine g_cond rfl (fun hc69 => ?_) (fun hc69 => ?_)
     ·
      try simp only [decide_eq_true_eq, decide_eq_false_iff_not, Bool.not_eq_true', Bool.not_eq_false', Bool.not_eq_eq_eq_not, Bool.not_true, Bool.not_false, Bool.and_eq_true, Bool.or_eq_true, Bool.or_eq_false_iff, beq_iff_eq, beq_eq_false_iff_ne, ne_eq, Int.not_lt, Int.not_le, Decidable.not_not] at hc69
      refine g_region ?_
      refine g_step rfl (s_val (v_move rfl) rfl rfl ?_)
      refine g_step rfl (s_val (v_move rfl) rfl rfl ?_)
      refine g_step rfl (s_lit ty41 ty3 rfl rfl rfl rfl rfl rfl rfl ?_)
      refine g_step rfl (s_append (l := (acc.map (AV.int .i64))) (m := ([(f (headX a' b') (headY a' b')).getD 0].map (AV.int .i64))) ty41 ty3 rfl rfl hown rfl rfl (by refine Even.map _ ?_ _; intro _; rfl) (by intro x hx; obtain ⟨_, _, rfl⟩ := List.mem_map.1 hx; rfl) rfl (by simp; omega) (by simp; omega) ?_)
      intro av73 G73 hown73
      refine g_step rfl (s_val (v_assign rfl) rfl rfl ?_)
      refine g_nil ?_
      first | refine g_keep [0, 1, 2, 7, 8, 9] [] [] (keep_cons rfl (keep_cons rfl (keep_cons rfl (keep_cons rfl (keep_cons rfl (keep_cons rfl keep_nil)))))) lkeep_nil keep_nil rfl ?_ | refine g_keep [0, 1, 2, 7, 8, 9] [] [] rfl rfl rfl rfl ?_
      first | exact g_has ⟨av73, rfl, rfl, rfl, by rw [toList_some 0 hc69, List.map_append]; exact hown73⟩ | exact g_has ⟨av, rfl, rfl, rfl, by rw [toList_none hc69, List.append_nil]; exact hown⟩
     ·
      try simp only [decide_eq_true_eq, decide_eq_false_iff_not, Bool.not_eq_true', Bool.not_eq_false', Bool.not_eq_eq_eq_not, Bool.not_true, Bool.not_false, Bool.and_eq_true, Bool.or_eq_true, Bool.or_eq_false_iff, beq_iff_eq, beq_eq_false_iff_ne, ne_eq, Int.not_lt, Int.not_le, Decidable.not_not] at hc69
      refine g_skip ?_
      first | refine g_keep [0, 1, 2, 7, 8, 9] [] [] (keep_cons rfl (keep_cons rfl (keep_cons rfl (keep_cons rfl (keep_cons rfl (keep_cons rfl keep_nil)))))) lkeep_nil keep_nil rfl ?_ | refine g_keep [0, 1, 2, 7, 8, 9] [] [] rfl rfl rfl rfl ?_
      first | exact g_has ⟨av73, rfl, rfl, rfl, by rw [toList_some 0 hc69, List.map_append]; exact hown73⟩ | exact g_has ⟨av, rfl, rfl, rfl, by rw [toList_none hc69, List.append_nil]; exact hown⟩
    ·
     obtain ⟨av2, rfl, rfl, rfl, hown2⟩ := hI
     refine g_cut (fun env L B G => ∃ (va2 : AV), env = [(0, va2), (1, (encRs b')), (2, .fn (.func ff) caps), (7, av2), (9, (ptrO (encRs b') (headY a' b').isSome))] ∧ L = [] ∧ B = [] ∧ va2 = encRs (nextA a' b') ∧ Own w0.heap.size 1 H av2 ((acc ++ (f (headX a' b') (headY a' b')).toList).map (AV.int .i64)) G) ?_ (fun env L B G hI => ?_)
     ·
      refine g_seq (fun K10 hK10 => ?_)
      refine g_region ?_
      refine g_step rfl (s_val (v_move rfl) rfl rfl ?_)
      refine g_step rfl (s_val (by first | exact v_ptr_neq_nil ty170 rfl rfl rfl | exact v_nil_neq_nil ty170 rfl rfl | exact v_ptrO_neq ty170 rfl rfl) rfl rfl ?_)
      refine g_nil ?_
      refine g_next hK10 ?_
      refine g_cond rfl (fun hc75 => ?_) (fun hc75 => ?_)
      ·
       try simp only [decide_eq_true_eq, decide_eq_false_iff_not, Bool.not_eq_true', Bool.not_eq_false', Bool.not_eq_eq_eq_not, Bool.not_true, Bool.not_false, Bool.and_eq_true, Bool.or_eq_true, Bool.or_eq_false_iff, beq_iff_eq, beq_eq_false_iff_ne, ne_eq, Int.not_lt, Int.not_le, Decidable.not_not] at hc75
       refine g_region ?_
       refine g_step rfl (s_val (v_move rfl) rfl rfl ?_)
       refine g_step rfl (s_val (v_slice_imm (lo := 1) (hi := a'.length) (m := (a'.tail.map encR)) ty64 ty135 rfl rfl rfl (by first | rfl | (exact (rfl : (0 : Int) = ((0 : Nat) : Int))) | omega | (simp <;> omega)) (by simp) (by have := headX_pos hc75; omega) (by simp) (by refine Even.map _ ?_ _; intro _; rfl) (tail_eq a' encR)) rfl rfl ?_)
       refine g_step rfl (s_val (v_assign rfl) rfl rfl ?_)
       refine g_nil ?_
       first | refine g_keep [0, 1, 2, 7, 9] [] [] (keep_cons rfl (keep_cons rfl (keep_cons rfl (keep_cons rfl (keep_cons rfl keep_nil))))) lkeep_nil keep_nil rfl ?_ | refine g_keep [0, 1, 2, 7, 9] [] [] rfl rfl rfl rfl ?_
       exact g_has ⟨_, rfl, rfl, rfl, ⟨by first | (rw [nextA, if_pos hc75]; rfl) | (rw [nextA, if_neg (by rw [hc75]; simp)]; done), hown2⟩⟩
      ·
       try simp only [decide_eq_true_eq, decide_eq_false_iff_not, Bool.not_eq_true', Bool.not_eq_false', Bool.not_eq_eq_eq_not, Bool.not_true, Bool.not_false, Bool.and_eq_true, Bool.or_eq_true, Bool.or_eq_false_iff, beq_iff_eq, beq_eq_false_iff_ne, ne_eq, Int.not_lt, Int.not_le, Decidable.not_not] at hc75
       refine g_skip ?_
       first | refine g_keep [0, 1, 2, 7, 9] [] [] (keep_cons rfl (keep_cons rfl (keep_cons rfl (keep_cons rfl (keep_cons rfl keep_nil))))) lkeep_nil keep_nil rfl ?_ | refine g_keep [0, 1, 2, 7, 9] [] [] rfl rfl rfl rfl ?_
       exact g_has ⟨_, rfl, rfl, rfl, ⟨by first | (rw [nextA, if_pos hc75]; rfl) | (rw [nextA, if_neg (by rw [hc75]; simp)]; done), hown2⟩⟩
     ·
      obtain ⟨va2, rfl, rfl, rfl, hva2, hown2⟩ := hI
      subst hva2
      refine g_seq (fun K11 hK11 => ?_)
      refine g_region ?_
      refine g_step rfl (s_val (v_move rfl) rfl rfl ?_)
      refine g_step rfl (s_val (by first | exact v_ptr_neq_nil ty170 rfl rfl rfl | exact v_nil_neq_nil ty170 rfl rfl | exact v_ptrO_neq ty170 rfl rfl) rfl rfl ?_)
      refine g_nil ?_
      refine g_next hK11 ?_
      refine g_cond rfl (fun hc79 => ?_) (fun hc79 => ?_)
      ·
       try simp only [decide_eq_true_eq, decide_eq_false_iff_not, Bool.not_eq_true', Bool.not_eq_false', Bool.not_eq_eq_eq_not, Bool.not_true, Bool.not_false, Bool.and_eq_true, Bool.or_eq_true, Bool.or_eq_false_iff, beq_iff_eq, beq_eq_false_iff_ne, ne_eq, Int.not_lt, Int.not_le, Decidable.not_not] at hc79
       refine g_region ?_
       refine g_step rfl (s_val (v_move rfl) rfl rfl ?_)
       refine g_step rfl (s_val (v_slice_imm (lo := 1) (hi := b'.length) (m := (b'.tail.map encR)) ty64 ty135 rfl rfl rfl (by first | rfl | (exact (rfl : (0 : Int) = ((0 : Nat) : Int))) | omega | (simp <;> omega)) (by simp) (by have := headX_pos hc79; omega) (by simp) (by refine Even.map _ ?_ _; intro _; rfl) (tail_eq b' encR)) rfl rfl ?_)
       refine g_step rfl (s_val (v_assign rfl) rfl rfl ?_)
       refine g_nil ?_
       refine g_block_normal ?_
       first | refine g_keep [0, 1, 2, 7] [] [] (keep_cons rfl (keep_cons rfl (keep_cons rfl (keep_cons rfl keep_nil)))) lkeep_nil keep_nil rfl ?_ | refine g_keep [0, 1, 2, 7] [] [] rfl rfl rfl rfl ?_
       first | (have hB : nextB a' b' = b'.tail := if_pos hc79; rw [hB] at hk; exact g_round _ hk.1 ⟨nextA a' b', b'.tail, av2, _, rfl, rfl, rfl, rfl, hown2, hk.2⟩) | (have hB : nextB a' b' = b' := if_neg (by rw [show (headX b' a').isSome = false from hc79]; simp); rw [hB] at hk; exact g_round _ hk.1 ⟨nextA a' b', b', av2, _, rfl, rfl, rfl, rfl, hown2, hk.2⟩)
      ·
       try simp only [decide_eq_true_eq, decide_eq_false_iff_not, Bool.not_eq_true', Bool.not_eq_false', Bool.not_eq_eq_eq_not, Bool.not_true, Bool.not_false, Bool.and_eq_true, Bool.or_eq_true, Bool.or_eq_false_iff, beq_iff_eq, beq_eq_false_iff_ne, ne_eq, Int.not_lt, Int.not_le, Decidable.not_not] at hc79
       refine g_skip ?_
       refine g_block_normal ?_
       first | refine g_keep [0, 1, 2, 7] [] [] (keep_cons rfl (keep_cons rfl (keep_cons rfl (keep_cons rfl keep_nil)))) lkeep_nil keep_nil rfl ?_ | refine g_keep [0, 1, 2, 7] [] [] rfl rfl rfl rfl ?_
       first | (have hB : nextB a' b' = b'.tail := if_pos hc79; rw [hB] at hk; exact g_round _ hk.1 ⟨nextA a' b', b'.tail, av2, _, rfl, rfl, rfl, rfl, hown2, hk.2⟩) | (have hB : nextB a' b' = b' := if_neg (by rw [show (headX b' a').isSome = false from hc79]; simp); rw [hB] at hk; exact g_round _ hk.1 ⟨nextA a' b', b', av2, _, rfl, rfl, rfl, rfl, hown2, hk.2⟩)

theorem diff1_ok (la lb : List Rc) (ox oy : Option Rc) (h1 : Hd la ox) (h2 : Hd lb oy) (hn : ¬ (ox = none ∧ oy = none)) (hs : ∀ x, ox = some x → Small x.bag) (G : AHeap) : PCalls Try.prog 86 [ptrO (encRs la) ox.isSome, ptrO (encRs lb) oy.isSome] G (fun v => v = .tup [encR ((fDiff ox oy).getD rzero), .bool (fDiff ox oy).isSome]) := by
 refine LCalls.intro 25 fi86 rfl Try.ntmps86 rfl (fun _ h => h.elim) (fun H hH w0 hw0 => ?_)
 refine g_seq (fun K0 hK0 => ?_)
 refine g_region ?_
 refine g_step rfl (s_alloc (av := (.agg [(.int .i64 0), (.int .i64 0), (.int .i64 0), (.int .i64 0), (.int .i64 0), (.bool false), .nil0])) ty135 rfl rfl rfl rfl ?_)
 refine g_step rfl (s_val (v_assign rfl) rfl rfl ?_)
 refine g_nil ?_
 refine g_next hK0 ?_
 refine g_seq (fun K1 hK1 => ?_)
 refine g_seq (fun K2 hK2 => ?_)
 refine g_draw (n := 15) (fun j => !([] : List Nat).contains j) rfl rfl ?_
 refine m_take 0 false rfl rfl (by kernel_rfl) (by kernel_rfl) (by kernel_rfl) (fun _ _ _ _ h => h) (v_move rfl) rfl rfl ?_
 refine m_take 1 false rfl rfl (by kernel_rfl) (by kernel_rfl) (by kernel_rfl) (fun _ _ _ _ h => h) (by first | exact v_ptr_eql_nil ty170 rfl rfl rfl | exact v_nil_eql_nil ty170 rfl rfl | exact v_ptrO_eql ty170 rfl rfl) rfl rfl ?_
 refine m_take 2 false rfl rfl (by kernel_rfl) (by kernel_rfl) (by kernel_rfl) (fun _ _ _ _ h => h) (v_move rfl) rfl rfl ?_
 refine m_split 8 rfl (fun hg8 => ?_) (fun hg8 => ?_)
 ·
  try simp only [decide_eq_true_eq, decide_eq_false_iff_not, Bool.not_eq_true', Bool.not_eq_false', Bool.not_eq_eq_eq_not, Bool.not_true, Bool.not_false, Bool.and_eq_true, Bool.or_eq_true, Bool.or_eq_false_iff, beq_iff_eq, beq_eq_false_iff_ne, ne_eq, Int.not_lt, Int.not_le, Decidable.not_not] at hg8
  obtain rfl : oy = none := by cases oy <;> simp_all
  refine m_take_no (j := 2) (t := 8) 3 rfl rfl rfl rfl rfl rfl (by kernel_rfl) (by kernel_rfl) (by kernel_rfl) (fun _ _ _ _ h => h) rfl rfl ?_
  refine m_take_no (j := 2) (t := 8) 4 rfl rfl rfl rfl rfl rfl (by kernel_rfl) (by kernel_rfl) (by kernel_rfl) (fun _ _ _ _ h => h) rfl rfl ?_
  refine m_take_no (j := 2) (t := 8) 5 rfl rfl rfl rfl rfl rfl (by kernel_rfl) (by kernel_rfl) (by kernel_rfl) (fun _ _ _ _ h => h) rfl rfl ?_
  refine m_take_und (j := 5) (t := 11) 6 rfl rfl rfl rfl rfl (by kernel_rfl) (by kernel_rfl) (by kernel_rfl) (fun _ _ _ _ h => h) rfl rfl ?_
  refine m_take_und (j := 5) (t := 11) 7 rfl rfl rfl rfl rfl (by kernel_rfl) (by kernel_rfl) (by kernel_rfl) (fun _ _ _ _ h => h) rfl rfl ?_
  refine m_take_und (j := 5) (t := 11) 8 rfl rfl rfl rfl rfl (by kernel_rfl) (by kernel_rfl) (by kernel_rfl) (fun _ _ _ _ h => h) rfl rfl ?_
  refine m_take_und (j := 5) (t := 11) 9 rfl rfl rfl rfl rfl (by kernel_rfl) (by kernel_rfl) (by kernel_rfl) (fun _ _ _ _ h => h) rfl rfl ?_
  refine m_take_und (j := 5) (t := 11) 10 rfl rfl rfl rfl rfl (by kernel_rfl) (by kernel_rfl) (by kernel_rfl) (fun _ _ _ _ h => h) rfl rfl ?_
  refine m_take_und (j := 5) (t := 11) 11 rfl rfl rfl rfl rfl (by kernel_rfl) (by kernel_rfl) (by kernel_rfl) (fun _ _ _ _ h => h) rfl rfl ?_
  refine m_take_und (j := 5) (t := 11) 12 rfl rfl rfl rfl rfl (by kernel_rfl) (by kernel_rfl) (by kernel_rfl) (fun _ _ _ _ h => h) rfl rfl ?_
  refine m_take_no (j := 2) (t := 8) 13 rfl rfl rfl rfl rfl rfl (by kernel_rfl) (by kernel_rfl) (by kernel_rfl) (fun _ _ _ _ h => h) rfl rfl ?_
  refine m_take 14 false rfl rfl (by kernel_rfl) (by kernel_rfl) (by kernel_rfl) (fun _ _ _ _ h => h) (v_pick_t rfl rfl) rfl rfl ?_
  refine m_done (by kernel_rfl) ?_
  refine g_next hK2 ?_
  refine g_cond rfl (fun _ => ?_) (fun h => by cases h)
  refine g_seq (fun K3 hK3 => ?_)
  refine g_region ?_
  refine g_step rfl (s_val (v_sub (b := (encR rzero)) (v_build (vs := []) (zs := [(.int .i64 0), (.int .i64 0), (.int .i64 0), (.int .i64 0), (.int .i64 0), (.bool false), .nil0]) (cells := [_, _, _, _, _, _, _]) ty135 pl135 rfl rfl rfl) (ASub.of_wk rfl)) rfl rfl ?_)
  refine g_step rfl (s_store_all ty135 rfl rfl rfl rfl rfl rfl ?_)
  refine g_step rfl (s_val (v_assign rfl) rfl rfl ?_)
  refine g_nil ?_
  refine g_next hK3 ?_
  refine g_ret ?_
  refine g_then_ret ?_
  refine g_end2 (.inl rfl) Try.results86 (.agg ty135 rfl rfl rfl rfl rfl) (.tmp rfl) [] (ASub.refl _) (AHeap.sub_refl _) (fun p hp => by cases hp) ⟨rfl, ?_⟩
  first | (simp_all [fDiff]; done) | (simp_all [fDiff]; rfl)
 ·
  try simp only [decide_eq_true_eq, decide_eq_false_iff_not, Bool.not_eq_true', Bool.not_eq_false', Bool.not_eq_eq_eq_not, Bool.not_true, Bool.not_false, Bool.and_eq_true, Bool.or_eq_true, Bool.or_eq_false_iff, beq_iff_eq, beq_eq_false_iff_ne, ne_eq, Int.not_lt, Int.not_le, Decidable.not_not] at hg8
  obtain ⟨y, rfl⟩ := Option.isSome_iff_exists.1 hg8
  have hy := h2 y rfl
  refine m_take_yes (j := 2) (t := 8) 3 false rfl rfl rfl rfl rfl (by kernel_rfl) (by kernel_rfl) (by kernel_rfl) (fun _ _ _ _ h => h) (v_move rfl) rfl rfl ?_
  refine m_take_yes (j := 2) (t := 8) 4 false rfl rfl rfl rfl rfl (by kernel_rfl) (by kernel_rfl) (by kernel_rfl) (fun _ _ _ _ h => h) (by first | exact v_ptr_neq_nil ty170 rfl rfl rfl | exact v_nil_neq_nil ty170 rfl rfl | exact v_ptrO_neq ty170 rfl rfl) rfl rfl ?_
  refine m_take_yes (j := 2) (t := 8) 5 false rfl rfl rfl rfl rfl (by kernel_rfl) (by kernel_rfl) (by kernel_rfl) (fun _ _ _ _ h => h) (v_move rfl) rfl rfl ?_
  refine m_split 11 rfl (fun hg11 => ?_) (fun hg11 => ?_)
  ·
   try simp only [decide_eq_true_eq, decide_eq_false_iff_not, Bool.not_eq_true', Bool.not_eq_false', Bool.not_eq_eq_eq_not, Bool.not_true, Bool.not_false, Bool.and_eq_true, Bool.or_eq_true, Bool.or_eq_false_iff, beq_iff_eq, beq_eq_false_iff_ne, ne_eq, Int.not_lt, Int.not_le, Decidable.not_not] at hg11
   obtain ⟨x, rfl⟩ := Option.isSome_iff_exists.1 hg11
   have hx := h1 x rfl
   refine m_take_yes (j := 5) (t := 11) 6 false rfl rfl rfl rfl rfl (by kernel_rfl) (by kernel_rfl) (by kernel_rfl) (fun _ _ _ _ h => h) (v_move rfl) rfl rfl ?_
   refine m_take_yes (j := 5) (t := 11) 7 false rfl rfl rfl rfl rfl (by kernel_rfl) (by kernel_rfl) (by kernel_rfl) (fun _ _ _ _ h => h) (v_nilCheck rfl rfl) rfl rfl ?_
   refine m_take_yes (j := 5) (t := 11) 8 true rfl rfl rfl rfl rfl (by kernel_rfl) (by kernel_rfl) (by kernel_rfl) (fun _ _ _ _ h => h) (by first | exact v_load_elt ty135 rfl rfl (by first | rfl | assumption) (map_get hx) rfl rfl | exact v_load_box_all ty135 rfl rfl (by assumption) rfl rfl | exact v_load_part (cs := [_, _, _, _, _, _, _]) ty135 rfl rfl (by first | rfl | assumption) (map_get hx) rfl rfl rfl | exact v_load_box_part (cs := [_, _, _, _, _, _, _]) ty135 rfl rfl (by assumption) rfl rfl rfl) rfl rfl ?_
   refine m_take_yes (j := 5) (t := 11) 9 false rfl rfl rfl rfl rfl (by kernel_rfl) (by kernel_rfl) (by kernel_rfl) (fun _ _ _ _ h => h) (v_move rfl) rfl rfl ?_
   refine m_take_yes (j := 5) (t := 11) 10 false rfl rfl rfl rfl rfl (by kernel_rfl) (by kernel_rfl) (by kernel_rfl) (fun _ _ _ _ h => h) (v_nilCheck rfl rfl) rfl rfl ?_
   refine m_take_yes (j := 5) (t := 11) 11 true rfl rfl rfl rfl rfl (by kernel_rfl) (by kernel_rfl) (by kernel_rfl) (fun _ _ _ _ h => h) (by first | exact v_load_elt ty135 rfl rfl (by first | rfl | assumption) (map_get hy) rfl rfl | exact v_load_box_all ty135 rfl rfl (by assumption) rfl rfl | exact v_load_part (cs := [_, _, _, _, _, _, _]) ty135 rfl rfl (by first | rfl | assumption) (map_get hy) rfl rfl rfl | exact v_load_box_part (cs := [_, _, _, _, _, _, _]) ty135 rfl rfl (by assumption) rfl rfl rfl) rfl rfl ?_
   refine m_one_yes (j := 5) (t := 11) 12 (by kernel_rfl) rfl rfl rfl rfl rfl ?_
   refine sm_callp rfl rfl rfl (rsame_ok x y _ (hs x rfl)) ?_
   rintro _ rfl
   refine m_take_yes (j := 2) (t := 8) 13 false rfl rfl rfl rfl rfl (by kernel_rfl) (by kernel_rfl) (by kernel_rfl) (fun _ _ _ _ h => h) (v_pick_t rfl rfl) rfl rfl ?_
   refine m_take 14 false rfl rfl (by kernel_rfl) (by kernel_rfl) (by kernel_rfl) (fun _ _ _ _ h => h) (v_pick_f rfl rfl) rfl rfl ?_
   refine m_done (by kernel_rfl) ?_
   refine g_next hK2 ?_
   refine g_cond rfl (fun hc20 => ?_) (fun hc20 => ?_)
   ·
    try simp only [decide_eq_true_eq, decide_eq_false_iff_not, Bool.not_eq_true', Bool.not_eq_false', Bool.not_eq_eq_eq_not, Bool.not_true, Bool.not_false, Bool.and_eq_true, Bool.or_eq_true, Bool.or_eq_false_iff, beq_iff_eq, beq_eq_false_iff_ne, ne_eq, Int.not_lt, Int.not_le, Decidable.not_not] at hc20
    refine g_seq (fun K4 hK4 => ?_)
    refine g_region ?_
    refine g_step rfl (s_val (v_sub (b := (encR rzero)) (v_build (vs := []) (zs := [(.int .i64 0), (.int .i64 0), (.int .i64 0), (.int .i64 0), (.int .i64 0), (.bool false), .nil0]) (cells := [_, _, _, _, _, _, _]) ty135 pl135 rfl rfl rfl) (ASub.of_wk rfl)) rfl rfl ?_)
    refine g_step rfl (s_store_all ty135 rfl rfl rfl rfl rfl rfl ?_)
    refine g_step rfl (s_val (v_assign rfl) rfl rfl ?_)
    refine g_nil ?_
    refine g_next hK4 ?_
    refine g_ret ?_
    refine g_then_ret ?_
    refine g_end2 (.inl rfl) Try.results86 (.agg ty135 rfl rfl rfl rfl rfl) (.tmp rfl) [] (ASub.refl _) (AHeap.sub_refl _) (fun p hp => by cases hp) ⟨rfl, ?_⟩
    first | (simp_all [fDiff]; done) | (simp_all [fDiff]; rfl)
   ·
    try simp only [decide_eq_true_eq, decide_eq_false_iff_not, Bool.not_eq_true', Bool.not_eq_false', Bool.not_eq_eq_eq_not, Bool.not_true, Bool.not_false, Bool.and_eq_true, Bool.or_eq_true, Bool.or_eq_false_iff, beq_iff_eq, beq_eq_false_iff_ne, ne_eq, Int.not_lt, Int.not_le, Decidable.not_not] at hc20
    refine g_skip ?_
    refine g_next hK1 ?_
    refine g_seq (fun K5 hK5 => ?_)
    refine g_region ?_
    refine g_step rfl (s_val (v_move rfl) rfl rfl ?_)
    refine g_step rfl (s_val (v_nilCheck rfl rfl) rfl rfl ?_)
    refine g_step rfl (s_val (by first | exact v_load_elt ty135 rfl rfl (by first | rfl | assumption) (map_get hy) rfl rfl | exact v_load_box_all ty135 rfl rfl (by assumption) rfl rfl | exact v_load_part (cs := [_, _, _, _, _, _, _]) ty135 rfl rfl (by first | rfl | assumption) (map_get hy) rfl rfl rfl | exact v_load_box_part (cs := [_, _, _, _, _, _, _]) ty135 rfl rfl (by assumption) rfl rfl rfl) rfl rfl ?_)
    refine g_step rfl (s_store_all ty135 rfl rfl rfl rfl rfl rfl ?_)
    refine g_step rfl (s_val (v_assign rfl) rfl rfl ?_)
    refine g_nil ?_
    refine g_next hK5 ?_
    refine g_ret ?_
    refine g_end2 (.inl rfl) Try.results86 (.agg ty135 rfl rfl rfl rfl rfl) (.tmp rfl) [] (ASub.refl _) (AHeap.sub_refl _) (fun p hp => by cases hp) ⟨rfl, ?_⟩
    first | (simp_all [fDiff]; done) | (simp_all [fDiff]; rfl)
  ·
   try simp only [decide_eq_true_eq, decide_eq_false_iff_not, Bool.not_eq_true', Bool.not_eq_false', Bool.not_eq_eq_eq_not, Bool.not_true, Bool.not_false, Bool.and_eq_true, Bool.or_eq_true, Bool.or_eq_false_iff, beq_iff_eq, beq_eq_false_iff_ne, ne_eq, Int.not_lt, Int.not_le, Decidable.not_not] at hg11
   obtain rfl : ox = none := by cases ox <;> simp_all
   refine m_take_no (j := 5) (t := 11) 6 rfl rfl rfl rfl rfl rfl (by kernel_rfl) (by kernel_rfl) (by kernel_rfl) (fun _ _ _ _ h => h) rfl rfl ?_
   refine m_take_no (j := 5) (t := 11) 7 rfl rfl rfl rfl rfl rfl (by kernel_rfl) (by kernel_rfl) (by kernel_rfl) (fun _ _ _ _ h => h) rfl rfl ?_
   refine m_take_no (j := 5) (t := 11) 8 rfl rfl rfl rfl rfl rfl (by kernel_rfl) (by kernel_rfl) (by kernel_rfl) (fun _ _ _ _ h => h) rfl rfl ?_
   refine m_take_no (j := 5) (t := 11) 9 rfl rfl rfl rfl rfl rfl (by kernel_rfl) (by kernel_rfl) (by kernel_rfl) (fun _ _ _ _ h => h) rfl rfl ?_
   refine m_take_no (j := 5) (t := 11) 10 rfl rfl rfl rfl rfl rfl (by kernel_rfl) (by kernel_rfl) (by kernel_rfl) (fun _ _ _ _ h => h) rfl rfl ?_
   refine m_take_no (j := 5) (t := 11) 11 rfl rfl rfl rfl rfl rfl (by kernel_rfl) (by kernel_rfl) (by kernel_rfl) (fun _ _ _ _ h => h) rfl rfl ?_
   refine m_take_no (j := 5) (t := 11) 12 rfl rfl rfl rfl rfl rfl (by kernel_rfl) (by kernel_rfl) (by kernel_rfl) (fun _ _ _ _ h => h) rfl rfl ?_
   refine m_take_yes (j := 2) (t := 8) 13 false rfl rfl rfl rfl rfl (by kernel_rfl) (by kernel_rfl) (by kernel_rfl) (fun _ _ _ _ h => h) (v_pick_f rfl rfl) rfl rfl ?_
   refine m_take 14 false rfl rfl (by kernel_rfl) (by kernel_rfl) (by kernel_rfl) (fun _ _ _ _ h => h) (v_pick_f rfl rfl) rfl rfl ?_
   refine m_done (by kernel_rfl) ?_
   refine g_next hK2 ?_
   refine g_cond rfl (fun h => by cases h) (fun _ => ?_)
   refine g_skip ?_
   refine g_next hK1 ?_
   refine g_seq (fun K6 hK6 => ?_)
   refine g_region ?_
   refine g_step rfl (s_val (v_move rfl) rfl rfl ?_)
   refine g_step rfl (s_val (v_nilCheck rfl rfl) rfl rfl ?_)
   refine g_step rfl (s_val (by first | exact v_load_elt ty135 rfl rfl (by first | rfl | assumption) (map_get hy) rfl rfl | exact v_load_box_all ty135 rfl rfl (by assumption) rfl rfl | exact v_load_part (cs := [_, _, _, _, _, _, _]) ty135 rfl rfl (by first | rfl | assumption) (map_get hy) rfl rfl rfl | exact v_load_box_part (cs := [_, _, _, _, _, _, _]) ty135 rfl rfl (by assumption) rfl rfl rfl) rfl rfl ?_)
   refine g_step rfl (s_store_all ty135 rfl rfl rfl rfl rfl rfl ?_)
   refine g_step rfl (s_val (v_assign rfl) rfl rfl ?_)
   refine g_nil ?_
   refine g_next hK6 ?_
   refine g_ret ?_
   refine g_end2 (.inl rfl) Try.results86 (.agg ty135 rfl rfl rfl rfl rfl) (.tmp rfl) [] (ASub.refl _) (AHeap.sub_refl _) (fun p hp => by cases hp) ⟨rfl, ?_⟩
   first | (simp_all [fDiff]; done) | (simp_all [fDiff]; rfl)

theorem over14_ok (la lb : List Rc) (ox oy : Option Rc) (h1 : Hd la ox) (h2 : Hd lb oy) (hn : ¬ (ox = none ∧ oy = none)) (hs : ∀ x, ox = some x → Small x.bag) (G : AHeap) : PCalls Try.prog 88 [ptrO (encRs la) ox.isSome, ptrO (encRs lb) oy.isSome] G (fun v => v = .tup [encR ((fOver ox oy).getD rzero), .bool (fOver ox oy).isSome]) := by
 refine LCalls.intro 14 fi88 rfl Try.ntmps88 rfl (fun _ h => h.elim) (fun H hH w0 hw0 => ?_)
 refine g_seq (fun K0 hK0 => ?_)
 refine g_region ?_
 refine g_step rfl (s_alloc (av := (.agg [(.int .i64 0), (.int .i64 0), (.int .i64 0), (.int .i64 0), (.int .i64 0), (.bool false), .nil0])) ty135 rfl rfl rfl rfl ?_)
 refine g_step rfl (s_val (v_assign rfl) rfl rfl ?_)
 refine g_nil ?_
 refine g_next hK0 ?_
 refine g_seq (fun K1 hK1 => ?_)
 refine g_seq (fun K2 hK2 => ?_)
 refine g_region ?_
 refine g_step rfl (s_val (v_move rfl) rfl rfl ?_)
 refine g_step rfl (s_val (by first | exact v_ptr_neq_nil ty170 rfl rfl rfl | exact v_nil_neq_nil ty170 rfl rfl | exact v_ptrO_neq ty170 rfl rfl) rfl rfl ?_)
 refine g_nil ?_
 refine g_next hK2 ?_
 refine g_cond rfl (fun hc7 => ?_) (fun hc7 => ?_)
 ·
  try simp only [decide_eq_true_eq, decide_eq_false_iff_not, Bool.not_eq_true', Bool.not_eq_false', Bool.not_eq_eq_eq_not, Bool.not_true, Bool.not_false, Bool.and_eq_true, Bool.or_eq_true, Bool.or_eq_false_iff, beq_iff_eq, beq_eq_false_iff_ne, ne_eq, Int.not_lt, Int.not_le, Decidable.not_not] at hc7
  obtain ⟨y, rfl⟩ := Option.isSome_iff_exists.1 hc7
  have hy := h2 y rfl
  refine g_seq (fun K3 hK3 => ?_)
  refine g_region ?_
  refine g_step rfl (s_val (v_move rfl) rfl rfl ?_)
  refine g_step rfl (s_val (v_nilCheck rfl rfl) rfl rfl ?_)
  refine g_step rfl (s_val (by first | exact v_load_elt ty135 rfl rfl (by first | rfl | assumption) (map_get hy) rfl rfl | exact v_load_box_all ty135 rfl rfl (by assumption) rfl rfl | exact v_load_part (cs := [_, _, _, _, _, _, _]) ty135 rfl rfl (by first | rfl | assumption) (map_get hy) rfl rfl rfl | exact v_load_box_part (cs := [_, _, _, _, _, _, _]) ty135 rfl rfl (by assumption) rfl rfl rfl) rfl rfl ?_)
  refine g_step rfl (s_store_all ty135 rfl rfl rfl rfl rfl rfl ?_)
  refine g_step rfl (s_val (v_assign rfl) rfl rfl ?_)
  refine g_nil ?_
  refine g_next hK3 ?_
  refine g_ret ?_
  refine g_then_ret ?_
  refine g_end2 (.inl rfl) Try.results88 (.agg ty135 rfl rfl rfl rfl rfl) (.tmp rfl) [] (ASub.refl _) (AHeap.sub_refl _) (fun p hp => by cases hp) ⟨rfl, ?_⟩
  first | (simp_all [fOver]; done) | (simp_all [fOver]; rfl)
 ·
  try simp only [decide_eq_true_eq, decide_eq_false_iff_not, Bool.not_eq_true', Bool.not_eq_false', Bool.not_eq_eq_eq_not, Bool.not_true, Bool.not_false, Bool.and_eq_true, Bool.or_eq_true, Bool.or_eq_false_iff, beq_iff_eq, beq_eq_false_iff_ne, ne_eq, Int.not_lt, Int.not_le, Decidable.not_not] at hc7
  obtain rfl : oy = none := by cases oy <;> simp_all
  obtain ⟨x, rfl⟩ : ∃ x, ox = some x := by rcases ox with _ | x; exact absurd ⟨rfl, rfl⟩ hn; exact ⟨_, rfl⟩
  have hx := h1 x rfl
  refine g_skip ?_
  refine g_next hK1 ?_
  refine g_seq (fun K4 hK4 => ?_)
  refine g_region ?_
  refine g_step rfl (s_val (v_move rfl) rfl rfl ?_)
  refine g_step rfl (s_val (v_nilCheck rfl rfl) rfl rfl ?_)
  refine g_step rfl (s_val (by first | exact v_load_elt ty135 rfl rfl (by first | rfl | assumption) (map_get hx) rfl rfl | exact v_load_box_all ty135 rfl rfl (by assumption) rfl rfl | exact v_load_part (cs := [_, _, _, _, _, _, _]) ty135 rfl rfl (by first | rfl | assumption) (map_get hx) rfl rfl rfl | exact v_load_box_part (cs := [_, _, _, _, _, _, _]) ty135 rfl rfl (by assumption) rfl rfl rfl) rfl rfl ?_)
  refine g_step rfl (s_store_all ty135 rfl rfl rfl rfl rfl rfl ?_)
  refine g_step rfl (s_val (v_assign rfl) rfl rfl ?_)
  refine g_nil ?_
  refine g_next hK4 ?_
  refine g_ret ?_
  refine g_end2 (.inl rfl) Try.results88 (.agg ty135 rfl rfl rfl rfl rfl) (.tmp rfl) [] (ASub.refl _) (AHeap.sub_refl _) (fun p hp => by cases hp) ⟨rfl, ?_⟩
  first | (simp_all [fOver]; done) | (simp_all [fOver]; rfl)

theorem gone1_ok (la lb : List Rc) (ox oy : Option Rc) (h1 : Hd la ox) (h2 : Hd lb oy) (hn : ¬ (ox = none ∧ oy = none)) (hs : ∀ x, ox = some x → Small x.bag) (G : AHeap) : PCalls Try.prog 100 [ptrO (encRs la) ox.isSome, ptrO (encRs lb) oy.isSome] G (fun v => v = .tup [.int .i64 ((fGone ox oy).getD 0), .bool (fGone ox oy).isSome]) := by
 refine LCalls.intro 16 fi100 rfl Try.ntmps100 rfl (fun _ h => h.elim) (fun H hH w0 hw0 => ?_)
 refine g_seq (fun K0 hK0 => ?_)
 refine g_region ?_
 refine g_step rfl (s_val (v_assign rfl) rfl rfl ?_)
 refine g_step rfl (s_val (v_assign rfl) rfl rfl ?_)
 refine g_nil ?_
 refine g_next hK0 ?_
 refine g_seq (fun K1 hK1 => ?_)
 refine g_seq (fun K2 hK2 => ?_)
 refine g_region ?_
 refine g_step rfl (s_val (v_move rfl) rfl rfl ?_)
 refine g_step rfl (s_val (by first | exact v_ptr_eql_nil ty170 rfl rfl rfl | exact v_nil_eql_nil ty170 rfl rfl | exact v_ptrO_eql ty170 rfl rfl) rfl rfl ?_)
 refine g_step rfl (s_val (v_move rfl) rfl rfl ?_)
 refine g_split 8 rfl (fun hg8 => ?_) (fun hg8 => ?_)
 ·
  try simp only [decide_eq_true_eq, decide_eq_false_iff_not, Bool.not_eq_true', Bool.not_eq_false', Bool.not_eq_eq_eq_not, Bool.not_true, Bool.not_false, Bool.and_eq_true, Bool.or_eq_true, Bool.or_eq_false_iff, beq_iff_eq, beq_eq_false_iff_ne, ne_eq, Int.not_lt, Int.not_le, Decidable.not_not] at hg8
  obtain rfl : ox = none := by cases ox <;> simp_all
  refine g_step_no (j := 2) (t := 8) rfl rfl rfl rfl rfl rfl rfl ?_
  refine g_step_no (j := 2) (t := 8) rfl rfl rfl rfl rfl rfl rfl ?_
  refine g_step rfl (s_val (v_pick_t rfl rfl) rfl rfl ?_)
  refine g_nil ?_
  refine g_next hK2 ?_
  refine g_cond rfl (fun _ => ?_) (fun h => by cases h)
  refine g_seq (fun K3 hK3 => ?_)
  refine g_region ?_
  skip
  refine g_step rfl (s_val (v_assign rfl) rfl rfl ?_)
  refine g_step rfl (s_val (v_assign rfl) rfl rfl ?_)
  refine g_nil ?_
  refine g_next hK3 ?_
  refine g_ret ?_
  refine g_then_ret ?_
  refine g_end2 (.inl rfl) Try.results100 (.tmp rfl) (.tmp rfl) [] (ASub.refl _) (AHeap.sub_refl _) (fun p hp => by cases hp) ⟨rfl, ?_⟩
  first | (first | (simp_all [fGone]; done) | (rcases oy with _ | y <;> simp_all [fGone]); done) | (first | (simp_all [fGone]; done) | (rcases oy with _ | y <;> simp_all [fGone]); rfl)
 ·
  try simp only [decide_eq_true_eq, decide_eq_false_iff_not, Bool.not_eq_true', Bool.not_eq_false', Bool.not_eq_eq_eq_not, Bool.not_true, Bool.not_false, Bool.and_eq_true, Bool.or_eq_true, Bool.or_eq_false_iff, beq_iff_eq, beq_eq_false_iff_ne, ne_eq, Int.not_lt, Int.not_le, Decidable.not_not] at hg8
  obtain ⟨x, rfl⟩ := Option.isSome_iff_exists.1 hg8
  have hx := h1 x rfl
  refine g_step_yes (j := 2) (t := 8) rfl rfl rfl rfl (s_val (v_move rfl) rfl rfl ?_)
  refine g_step_yes (j := 2) (t := 8) rfl rfl rfl rfl (s_val (by first | exact v_ptr_neq_nil ty170 rfl rfl rfl | exact v_nil_neq_nil ty170 rfl rfl | exact v_ptrO_neq ty170 rfl rfl) rfl rfl ?_)
  refine g_step rfl (s_val (v_pick_f rfl rfl) rfl rfl ?_)
  refine g_nil ?_
  refine g_next hK2 ?_
  refine g_cond rfl (fun hc11 => ?_) (fun hc11 => ?_)
  ·
   try simp only [decide_eq_true_eq, decide_eq_false_iff_not, Bool.not_eq_true', Bool.not_eq_false', Bool.not_eq_eq_eq_not, Bool.not_true, Bool.not_false, Bool.and_eq_true, Bool.or_eq_true, Bool.or_eq_false_iff, beq_iff_eq, beq_eq_false_iff_ne, ne_eq, Int.not_lt, Int.not_le, Decidable.not_not] at hc11
   refine g_seq (fun K4 hK4 => ?_)
   refine g_region ?_
   skip
   refine g_step rfl (s_val (v_assign rfl) rfl rfl ?_)
   refine g_step rfl (s_val (v_assign rfl) rfl rfl ?_)
   refine g_nil ?_
   refine g_next hK4 ?_
   refine g_ret ?_
   refine g_then_ret ?_
   refine g_end2 (.inl rfl) Try.results100 (.tmp rfl) (.tmp rfl) [] (ASub.refl _) (AHeap.sub_refl _) (fun p hp => by cases hp) ⟨rfl, ?_⟩
   first | (first | (simp_all [fGone]; done) | (rcases oy with _ | y <;> simp_all [fGone]); done) | (first | (simp_all [fGone]; done) | (rcases oy with _ | y <;> simp_all [fGone]); rfl)
  ·
   try simp only [decide_eq_true_eq, decide_eq_false_iff_not, Bool.not_eq_true', Bool.not_eq_false', Bool.not_eq_eq_eq_not, Bool.not_true, Bool.not_false, Bool.and_eq_true, Bool.or_eq_true, Bool.or_eq_false_iff, beq_iff_eq, beq_eq_false_iff_ne, ne_eq, Int.not_lt, Int.not_le, Decidable.not_not] at hc11
   refine g_skip ?_
   refine g_next hK1 ?_
   refine g_seq (fun K5 hK5 => ?_)
   refine g_region ?_
   obtain rfl : oy = none := by cases oy <;> simp_all
   refine g_step rfl (s_val (v_move rfl) rfl rfl ?_)
   refine g_step rfl (s_val (v_nilCheck rfl rfl) rfl rfl ?_)
   refine g_step rfl (s_val (by first | exact v_fieldAddr ty135 fo135_0 ty3 rfl | exact v_fieldAddr_box ty135 fo135_0 ty3 rfl) rfl rfl ?_)
   refine g_step rfl (s_val (by first | exact v_load ty3 rfl rfl (by first | rfl | assumption) (map_get hx) rfl | exact v_load_box ty3 rfl rfl (by assumption) rfl) rfl rfl ?_)
   refine g_step rfl (s_val (v_assign rfl) rfl rfl ?_)
   refine g_step rfl (s_val (v_assign rfl) rfl rfl ?_)
   refine g_nil ?_
   refine g_next hK5 ?_
   refine g_ret ?_
   refine g_end2 (.inl rfl) Try.results100 (.tmp rfl) (.tmp rfl) [] (ASub.refl _) (AHeap.sub_refl _) (fun p hp => by cases hp) ⟨rfl, ?_⟩
   first | (first | (simp_all [fGone]; done) | (rcases oy with _ | y <;> simp_all [fGone]); done) | (first | (simp_all [fGone]; done) | (rcases oy with _ | y <;> simp_all [fGone]); rfl)

theorem sideR_ok (a b : List Rc) (ff : Nat) (caps : List AV) (f : Option Rc → Option Rc → Option Rc) (G : AHeap) (hla : a.length ≤ 100000) (hlb : b.length ≤ 100000) (hcall : ∀ (la lb : List Rc) (ox oy : Option Rc), Hd la ox → Hd lb oy → ¬ (ox = none ∧ oy = none) → (∀ x, ox = some x → x ∈ a) → (∀ y, oy = some y → y ∈ b) → ∀ H, G.sub H → PCalls Try.prog ff ([ptrO (encRs la) ox.isSome, ptrO (encRs lb) oy.isSome] ++ caps) H (fun v => v = .tup [encR ((f ox oy).getD rzero), .bool (f ox oy).isSome])) : PCalls Try.prog 85 [encRs a, encRs b, .fn (.func ff) caps] G (fun r => r = encRs (sideL f a b)) := LCalls.freeze (sideRO a b ff caps f G hla hlb hcall)
theorem sideI_ok (a b : List Rc) (ff : Nat) (caps : List AV) (f : Option Rc → Option Rc → Option Int) (G : AHeap) (hla : a.length ≤ 100000) (hlb : b.length ≤ 100000) (hcall : ∀ (la lb : List Rc) (ox oy : Option Rc), Hd la ox → Hd lb oy → ¬ (ox = none ∧ oy = none) → (∀ x, ox = some x → x ∈ a) → (∀ y, oy = some y → y ∈ b) → ∀ H, G.sub H → PCalls Try.prog ff ([ptrO (encRs la) ox.isSome, ptrO (encRs lb) oy.isSome] ++ caps) H (fun v => v = .tup [(AV.int .i64) ((f ox oy).getD 0), .bool (f ox oy).isSome])) : PCalls Try.prog 99 [encRs a, encRs b, .fn (.func ff) caps] G (fun r => r = .imm ((sideL f a b).map (AV.int .i64))) := LCalls.freeze (sideIO a b ff caps f G hla hlb hcall)
theorem ddiff_ok (a b : List Rc) (G : AHeap) (ha : a.length ≤ 100000) (hb : b.length ≤ 100000) (hsa : ∀ x ∈ a, Small x.bag) (hsb : ∀ x ∈ b, Small x.bag) : PCalls Try.prog 49 [encRs a, encRs b] G (fun v => v = .tup [encRs (if (srt a && srt b) = true then diffL a b else []), .bool (srt a && srt b)]) := by
 refine LCalls.intro 16 fi49 rfl Try.ntmps49 rfl (fun _ h => h.elim) (fun H hH w0 hw0 => ?_)
 refine g_seq (fun K0 hK0 => ?_)
 refine g_region ?_
 refine g_step rfl (s_val (v_assign rfl) rfl rfl ?_)
 refine g_step rfl (s_val (v_assign rfl) rfl rfl ?_)
 refine g_nil ?_
 refine g_next hK0 ?_
 refine g_seq (fun K1 hK1 => ?_)
 refine g_seq (fun K2 hK2 => ?_)
 refine g_region ?_
 refine g_step rfl (s_val (v_move rfl) rfl rfl ?_)
 refine g_step rfl (s_val (v_move rfl) rfl rfl ?_)
 refine g_step rfl (s_callp rfl rfl rfl (both_ok a b _ (by omega) (by omega) hsa hsb) ?_)
 rintro _ rfl
 refine g_step rfl (s_val (v_not rfl) rfl rfl ?_)
 refine g_nil ?_
 refine g_next hK2 ?_
 refine g_cond rfl (fun hc10 => ?_) (fun hc10 => ?_)
 ·
  try simp only [decide_eq_true_eq, decide_eq_false_iff_not, Bool.not_eq_true', Bool.not_eq_false', Bool.not_eq_eq_eq_not, Bool.not_true, Bool.not_false, Bool.and_eq_true, Bool.or_eq_true, Bool.or_eq_false_iff, beq_iff_eq, beq_eq_false_iff_ne, ne_eq, Int.not_lt, Int.not_le, Decidable.not_not] at hc10
  refine g_seq (fun K3 hK3 => ?_)
  refine g_region ?_
  refine g_step rfl (s_val (v_assign rfl) rfl rfl ?_)
  refine g_step rfl (s_val (v_assign rfl) rfl rfl ?_)
  refine g_nil ?_
  refine g_next hK3 ?_
  refine g_ret ?_
  refine g_then_ret ?_
  refine g_end2 (.inl rfl) Try.results49 (.tmp rfl) (.tmp rfl) [] (ASub.tup (m := [.imm [], .bool false]) ⟨ASub.nil0, ASub.refl _, trivial⟩) (AHeap.sub_refl _) (fun p hp => by cases hp) ⟨rfl, ?_⟩
  first | (rw [hc10]; rfl; done) | (rw [hc10]; rfl; rfl)
 ·
  try simp only [decide_eq_true_eq, decide_eq_false_iff_not, Bool.not_eq_true', Bool.not_eq_false', Bool.not_eq_eq_eq_not, Bool.not_true, Bool.not_false, Bool.and_eq_true, Bool.or_eq_true, Bool.or_eq_false_iff, beq_iff_eq, beq_eq_false_iff_ne, ne_eq, Int.not_lt, Int.not_le, Decidable.not_not] at hc10
  refine g_skip ?_
  refine g_next hK1 ?_
  refine g_seq (fun K4 hK4 => ?_)
  refine g_region ?_
  refine g_step rfl (s_val (v_move rfl) rfl rfl ?_)
  refine g_step rfl (s_val (v_move rfl) rfl rfl ?_)
  refine g_step rfl (s_callp rfl rfl rfl (sideR_ok a b 86 [] fDiff _ ha hb (fun la lb ox oy h1 h2 hn hx hy H' _ => diff1_ok la lb ox oy h1 h2 hn (fun x e => hsa x (hx x e)) H')) ?_)
  rintro _ rfl
  refine g_step rfl (s_val (v_assign rfl) rfl rfl ?_)
  refine g_nil ?_
  refine g_next hK4 ?_
  refine g_seq (fun K5 hK5 => ?_)
  refine g_region ?_
  refine g_step rfl (s_val (v_move rfl) rfl rfl ?_)
  refine g_step rfl (s_callp rfl rfl rfl (recCopy_ok (diffL a b) _ _ rfl (by have := sideL_len fDiff a b; unfold diffL; omega) (diff_small hsa hsb)) ?_)
  rintro _ rfl
  refine g_step rfl (s_val (v_assign rfl) rfl rfl ?_)
  refine g_step rfl (s_val (v_assign rfl) rfl rfl ?_)
  refine g_nil ?_
  refine g_next hK5 ?_
  refine g_ret ?_
  refine g_end2 (.inl rfl) Try.results49 (.tmp rfl) (.tmp rfl) [] (ASub.refl _) (AHeap.sub_refl _) (fun p hp => by cases hp) ⟨rfl, ?_⟩
  first | (rw [hc10.1, hc10.2]; rfl; done) | (rw [hc10.1, hc10.2]; rfl; rfl)

theorem dover_ok (a b : List Rc) (G : AHeap) (ha : a.length ≤ 100000) (hb : b.length ≤ 100000) (hsa : ∀ x ∈ a, Small x.bag) (hsb : ∀ x ∈ b, Small x.bag) : PCalls Try.prog 50 [encRs a, encRs b] G (fun v => v = .tup [encRs (if (srt a && srt b) = true then overL a b else []), .bool (srt a && srt b)]) := by
 refine LCalls.intro 16 fi50 rfl Try.ntmps50 rfl (fun _ h => h.elim) (fun H hH w0 hw0 => ?_)
 refine g_seq (fun K0 hK0 => ?_)
 refine g_region ?_
 refine g_step rfl (s_val (v_assign rfl) rfl rfl ?_)
 refine g_step rfl (s_val (v_assign rfl) rfl rfl ?_)
 refine g_nil ?_
 refine g_next hK0 ?_
 refine g_seq (fun K1 hK1 => ?_)
 refine g_seq (fun K2 hK2 => ?_)
 refine g_region ?_
 refine g_step rfl (s_val (v_move rfl) rfl rfl ?_)
 refine g_step rfl (s_val (v_move rfl) rfl rfl ?_)
 refine g_step rfl (s_callp rfl rfl rfl (both_ok a b _ (by omega) (by omega) hsa hsb) ?_)
 rintro _ rfl
 refine g_step rfl (s_val (v_not rfl) rfl rfl ?_)
 refine g_nil ?_
 refine g_next hK2 ?_
 refine g_cond rfl (fun hc10 => ?_) (fun hc10 => ?_)
 ·
  try simp only [decide_eq_true_eq, decide_eq_false_iff_not, Bool.not_eq_true', Bool.not_eq_false', Bool.not_eq_eq_eq_not, Bool.not_true, Bool.not_false, Bool.and_eq_true, Bool.or_eq_true, Bool.or_eq_false_iff, beq_iff_eq, beq_eq_false_iff_ne, ne_eq, Int.not_lt, Int.not_le, Decidable.not_not] at hc10
  refine g_seq (fun K3 hK3 => ?_)
  refine g_region ?_
  refine g_step rfl (s_val (v_assign rfl) rfl rfl ?_)
  refine g_step rfl (s_val (v_assign rfl) rfl rfl ?_)
  refine g_nil ?_
  refine g_next hK3 ?_
  refine g_ret ?_
  refine g_then_ret ?_
  refine g_end2 (.inl rfl) Try.results50 (.tmp rfl) (.tmp rfl) [] (ASub.tup (m := [.imm [], .bool false]) ⟨ASub.nil0, ASub.refl _, trivial⟩) (AHeap.sub_refl _) (fun p hp => by cases hp) ⟨rfl, ?_⟩
  first | (rw [hc10]; rfl; done) | (rw [hc10]; rfl; rfl)
 ·
  try simp only [decide_eq_true_eq, decide_eq_false_iff_not, Bool.not_eq_true', Bool.not_eq_false', Bool.not_eq_eq_eq_not, Bool.not_true, Bool.not_false, Bool.and_eq_true, Bool.or_eq_true, Bool.or_eq_false_iff, beq_iff_eq, beq_eq_false_iff_ne, ne_eq, Int.not_lt, Int.not_le, Decidable.not_not] at hc10
  refine g_skip ?_
  refine g_next hK1 ?_
  refine g_seq (fun K4 hK4 => ?_)
  refine g_region ?_
  refine g_step rfl (s_val (v_move rfl) rfl rfl ?_)
  refine g_step rfl (s_val (v_move rfl) rfl rfl ?_)
  refine g_step rfl (s_callp rfl rfl rfl (sideR_ok a b 88 [] fOver _ ha hb (fun la lb ox oy h1 h2 hn hx hy H' _ => over14_ok la lb ox oy h1 h2 hn (fun x e => hsa x (hx x e)) H')) ?_)
  rintro _ rfl
  refine g_step rfl (s_val (v_assign rfl) rfl rfl ?_)
  refine g_nil ?_
  refine g_next hK4 ?_
  refine g_seq (fun K5 hK5 => ?_)
  refine g_region ?_
  refine g_step rfl (s_val (v_move rfl) rfl rfl ?_)
  refine g_step rfl (s_callp rfl rfl rfl (recCopy_ok (overL a b) _ _ rfl (by have := sideL_len fOver a b; unfold overL; omega) (over_small hsa hsb)) ?_)
  rintro _ rfl
  refine g_step rfl (s_val (v_assign rfl) rfl rfl ?_)
  refine g_step rfl (s_val (v_assign rfl) rfl rfl ?_)
  refine g_nil ?_
  refine g_next hK5 ?_
  refine g_ret ?_
  refine g_end2 (.inl rfl) Try.results50 (.tmp rfl) (.tmp rfl) [] (ASub.refl _) (AHeap.sub_refl _) (fun p hp => by cases hp) ⟨rfl, ?_⟩
  first | (rw [hc10.1, hc10.2]; rfl; done) | (rw [hc10.1, hc10.2]; rfl; rfl)

theorem dgone_ok (a b : List Rc) (G : AHeap) (ha : a.length ≤ 100000) (hb : b.length ≤ 100000) (hsa : ∀ x ∈ a, Small x.bag) (hsb : ∀ x ∈ b, Small x.bag) : PCalls Try.prog 69 [encRs a, encRs b] G (fun v => v = .tup [.imm ((if (srt a && srt b) = true then goneL a b else []).map (.int .i64)), .bool (srt a && srt b)]) := by
 refine LCalls.intro 13 fi69 rfl Try.ntmps69 rfl (fun _ h => h.elim) (fun H hH w0 hw0 => ?_)
 refine g_seq (fun K0 hK0 => ?_)
 refine g_region ?_
 refine g_step rfl (s_val (v_assign rfl) rfl rfl ?_)
 refine g_step rfl (s_val (v_assign rfl) rfl rfl ?_)
 refine g_nil ?_
 refine g_next hK0 ?_
 refine g_seq (fun K1 hK1 => ?_)
 refine g_seq (fun K2 hK2 => ?_)
 refine g_region ?_
 refine g_step rfl (s_val (v_move rfl) rfl rfl ?_)
 refine g_step rfl (s_val (v_move rfl) rfl rfl ?_)
 refine g_step rfl (s_callp rfl rfl rfl (both_ok a b _ (by omega) (by omega) hsa hsb) ?_)
 rintro _ rfl
 refine g_step rfl (s_val (v_not rfl) rfl rfl ?_)
 refine g_nil ?_
 refine g_next hK2 ?_
 refine g_cond rfl (fun hc9 => ?_) (fun hc9 => ?_)
 ·
  try simp only [decide_eq_true_eq, decide_eq_false_iff_not, Bool.not_eq_true', Bool.not_eq_false', Bool.not_eq_eq_eq_not, Bool.not_true, Bool.not_false, Bool.and_eq_true, Bool.or_eq_true, Bool.or_eq_false_iff, beq_iff_eq, beq_eq_false_iff_ne, ne_eq, Int.not_lt, Int.not_le, Decidable.not_not] at hc9
  refine g_seq (fun K3 hK3 => ?_)
  refine g_region ?_
  refine g_step rfl (s_val (v_assign rfl) rfl rfl ?_)
  refine g_step rfl (s_val (v_assign rfl) rfl rfl ?_)
  refine g_nil ?_
  refine g_next hK3 ?_
  refine g_ret ?_
  refine g_then_ret ?_
  refine g_end2 (.inl rfl) Try.results69 (.tmp rfl) (.tmp rfl) [] (ASub.tup (m := [.imm [], .bool false]) ⟨ASub.nil0, ASub.refl _, trivial⟩) (AHeap.sub_refl _) (fun p hp => by cases hp) ⟨rfl, ?_⟩
  first | (rw [hc9]; rfl; done) | (rw [hc9]; rfl; rfl)
 ·
  try simp only [decide_eq_true_eq, decide_eq_false_iff_not, Bool.not_eq_true', Bool.not_eq_false', Bool.not_eq_eq_eq_not, Bool.not_true, Bool.not_false, Bool.and_eq_true, Bool.or_eq_true, Bool.or_eq_false_iff, beq_iff_eq, beq_eq_false_iff_ne, ne_eq, Int.not_lt, Int.not_le, Decidable.not_not] at hc9
  refine g_skip ?_
  refine g_next hK1 ?_
  refine g_seq (fun K4 hK4 => ?_)
  refine g_region ?_
  refine g_step rfl (s_val (v_move rfl) rfl rfl ?_)
  refine g_step rfl (s_val (v_move rfl) rfl rfl ?_)
  refine g_step rfl (s_callp rfl rfl rfl (sideI_ok a b 100 [] fGone _ ha hb (fun la lb ox oy h1 h2 hn hx hy H' _ => gone1_ok la lb ox oy h1 h2 hn (fun x e => hsa x (hx x e)) H')) ?_)
  rintro _ rfl
  refine g_step rfl (s_val (v_assign rfl) rfl rfl ?_)
  refine g_step rfl (s_val (v_assign rfl) rfl rfl ?_)
  refine g_nil ?_
  refine g_next hK4 ?_
  refine g_ret ?_
  refine g_end2 (.inl rfl) Try.results69 (.tmp rfl) (.tmp rfl) [] (ASub.refl _) (AHeap.sub_refl _) (fun p hp => by cases hp) ⟨rfl, ?_⟩
  first | (rw [hc9.1, hc9.2]; rfl; done) | (rw [hc9.1, hc9.2]; rfl; rfl)

end Go.Proofs.Ytobigfbgaiglkaa

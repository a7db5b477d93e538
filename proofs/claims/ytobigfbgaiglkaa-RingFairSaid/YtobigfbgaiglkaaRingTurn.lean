import Derived.Test.YtobigfbgaiglkaaRingLaw
import Derived.Test.YtobigfbgaiglkaaPRing4
set_option maxHeartbeats 8000000
set_option linter.unusedSimpArgs false
set_option linter.unusedVariables false
set_option maxRecDepth 100000
namespace Go.Proofs.Ytobigfbgaiglkaa
open Go Go.Proofs.Ytobigfbgaiglkaa.AM
theorem awake20_ok (G : AHeap) : PCalls Try.prog 21 [] G (fun v => v = .bool true) := by
 refine LCalls.intro 35 fi21 rfl Try.ntmps21 rfl (fun _ h => h.elim) (fun H hH w0 hw0 => ?_)
 refine g_seq (fun K0 hK0 => ?_)
 refine g_region ?_
 refine g_step rfl (s_val (v_assign rfl) rfl rfl ?_)
 refine g_nil ?_
 refine g_next hK0 ?_
 refine g_seq (fun K1 hK1 => ?_)
 refine g_region ?_
 refine g_step rfl (s_call rfl rfl rfl (ringNew_ok _) (fun _ h => h.elim) ?_)
 rintro n1 _ effs1 hn1 hdom1 ⟨p, hp1, rfl, rfl⟩ hok1
 have hw_p : w0.heap.size ≤ p := Nat.le_trans hn1 hp1
 refine g_step rfl (s_val (v_assign rfl) rfl rfl ?_)
 refine g_nil ?_
 refine g_next hK1 ?_
 refine g_seq (fun K2 hK2 => ?_)
 refine g_region ?_
 refine g_step rfl (s_call rfl rfl rfl (new_ok [] _ _ rfl (by decide)) (fun _ h => h.elim) ?_)
 rintro n2 _ effs2 hn2 hdom2 ⟨q, hq1, rfl, rfl⟩ hok2
 have hw_q : w0.heap.size ≤ q := Nat.le_trans hn2 hq1
 obtain ⟨h0, hS, hR, hs_H⟩ := ring_start [] hw_p hw_q (box_ne hdom2 hq1) hw0
 refine g_step rfl (s_val (v_assign rfl) rfl rfl ?_)
 refine g_nil ?_
 refine g_next hK2 ?_
 refine g_seq (fun K3 hK3 => ?_)
 refine g_region ?_
 refine g_step rfl (s_lit ty41 ty3 rfl rfl rfl rfl rfl rfl rfl ?_)
 refine g_step rfl (s_val (v_assign rfl) rfl rfl ?_)
 refine g_nil ?_
 refine g_next hK3 ?_
 refine g_seq (fun K4 hK4 => ?_)
 refine g_region ?_
 refine g_step rfl (s_lit ty41 ty3 rfl rfl rfl rfl rfl rfl rfl ?_)
 refine g_step rfl (s_val (v_assign rfl) rfl rfl ?_)
 refine g_nil ?_
 refine g_next hK4 ?_
 refine g_seq (fun K5 hK5 => ?_)
 refine g_seq (fun K6 hK6 => ?_)
 refine g_region ?_
 refine g_step rfl (s_val (v_assign rfl) rfl rfl ?_)
 refine g_nil ?_
 refine g_next hK6 ?_
 refine g_block ?_
 first | refine g_keep [1, 2, 3, 4, 5] [] [] (keep_cons rfl (keep_cons rfl (keep_cons rfl (keep_cons rfl (keep_cons rfl keep_nil))))) lkeep_nil keep_nil rfl ?_ | refine g_keep [1, 2, 3, 4, 5] [] [] rfl rfl rfl rfl ?_
 refine g_loop (fun n env L B G => ∃ (k : Nat) (h1 : AHeap), k ≤ want.length ∧ n = want.length - k ∧ env = [(1, .box p 0), (2, .box q 0), (3, (encI [1, 2, 3])), (4, (encI want)), (5, .int .i64 (k : Int))] ∧ L = [] ∧ B = [] ∧ Sep w0.heap.size G [h1, noH, noH] ∧ RIs h1 p q (aw k) ∧ H.sub G) (want.length) ⟨0, h0, Nat.zero_le _, rfl, rfl, rfl, rfl, ⟨hS, hR, hs_H⟩⟩ (fun n env L B G hI => ?_)
 obtain ⟨k, h1, hk, rfl, rfl, rfl, rfl, hS, hR, hs_H⟩ := hI
 have hwant : want.length = 6 := rfl
 refine g_seq (fun K7 hK7 => ?_)
 refine g_seq (fun K8 hK8 => ?_)
 refine g_region ?_
 refine g_step rfl (s_val (v_move rfl) rfl rfl ?_)
 refine g_step rfl (s_val (v_move rfl) rfl rfl ?_)
 refine g_step rfl (s_val (v_len ty41 rfl (by first | rfl | assumption) (by first | exact List.length_map .. | rfl)) rfl rfl ?_)
 refine g_step rfl (s_val (v_lss rfl rfl) rfl rfl ?_)
 refine g_nil ?_
 refine g_next hK8 ?_
 refine g_cond rfl (fun hc15 => ?_) (fun hc15 => ?_)
 ·
  try simp only [decide_eq_true_eq, decide_eq_false_iff_not, Bool.not_eq_true', Bool.not_eq_false', Bool.not_eq_eq_eq_not, Bool.not_true, Bool.not_false, Bool.and_eq_true, Bool.or_eq_true, Bool.or_eq_false_iff, beq_iff_eq, beq_eq_false_iff_ne, ne_eq, Int.not_lt, Int.not_le, Decidable.not_not] at hc15
  obtain ⟨y, hy⟩ := get_some (l := want) (k := k) (by omega)
  have haw := aw_all hy
  have hv1 : (rNext (aw k) [1, 2, 3]).2.1 = y := congrArg Prod.fst haw.1
  have hv2 : (rNext (aw k) [1, 2, 3]).2.2 = true := congrArg Prod.snd haw.1
  refine g_skip ?_
  refine g_next hK7 ?_
  refine g_seq (fun K9 hK9 => ?_)
  refine g_block ?_
  refine g_seq (fun K10 hK10 => ?_)
  refine g_region ?_
  refine g_step rfl (s_val (v_move rfl) rfl rfl ?_)
  refine g_step rfl (s_val (v_move rfl) rfl rfl ?_)
  refine g_step rfl (s_val (v_move rfl) rfl rfl ?_)
  refine g_step rfl (s_call rfl rfl rfl (rNext_ok h1 p q (aw k) [1, 2, 3] (encI [1, 2, 3]) _ hR (hS.1 h1 (by simp)).1 rfl (by have := haw.2.1; omega) (by have := haw.2.2; omega) (by decide)) (fun b hb => .inr ((hS.1 h1 (by simp)).2 b hb)) ?_)
  rintro n3 v3 effs3 hn3 hdom3 ⟨rfl, h2, hE, hR2⟩ hok3
  have hS2 := hS.turn (l1 := []) hE hn3 hdom3
  have hs2 := hE.frame hdom3 hs_H (fun b hb => hw0 b ((hS.1 h1 (by simp)).2 b hb))
  refine g_step rfl (s_val (v_move rfl) rfl rfl ?_)
  refine g_step rfl (s_val (v_extract rfl rfl) rfl rfl ?_)
  refine g_step rfl (s_val (v_extract rfl rfl) rfl rfl ?_)
  refine g_step rfl (s_val (v_assign rfl) rfl rfl ?_)
  refine g_step rfl (s_val (v_assign rfl) rfl rfl ?_)
  refine g_nil ?_
  refine g_next hK10 ?_
  refine g_seq (fun K11 hK11 => ?_)
  refine g_region ?_
  refine g_step rfl (s_val (v_move rfl) rfl rfl ?_)
  refine g_step rfl (s_val (v_not rfl) rfl rfl ?_)
  refine g_step rfl (s_val (v_move rfl) rfl rfl ?_)
  refine g_split 27 rfl (fun hg27 => ?_) (fun hg27 => ?_)
  · exfalso; (try simp only [decide_eq_true_eq, decide_eq_false_iff_not, Bool.not_eq_true', Bool.not_eq_false', Bool.not_eq_eq_eq_not, Bool.not_true, Bool.not_false, Bool.and_eq_true, Bool.or_eq_true, Bool.or_eq_false_iff, beq_iff_eq, beq_eq_false_iff_ne, ne_eq, Int.not_lt, Int.not_le, Decidable.not_not] at hg27); first | exact absurd (hg27.symm.trans hv2) (by simp) | (rw [hv2] at hg27; simp at hg27)
  ·
   try simp only [decide_eq_true_eq, decide_eq_false_iff_not, Bool.not_eq_true', Bool.not_eq_false', Bool.not_eq_eq_eq_not, Bool.not_true, Bool.not_false, Bool.and_eq_true, Bool.or_eq_true, Bool.or_eq_false_iff, beq_iff_eq, beq_eq_false_iff_ne, ne_eq, Int.not_lt, Int.not_le, Decidable.not_not] at hg27
   refine g_step_yes (j := 2) (t := 27) rfl rfl rfl rfl (s_val (v_move rfl) rfl rfl ?_)
   refine g_step_yes (j := 2) (t := 27) rfl rfl rfl rfl (s_val (v_move rfl) rfl rfl ?_)
   refine g_step_yes (j := 2) (t := 27) rfl rfl rfl rfl (s_val (v_move rfl) rfl rfl ?_)
   refine g_step_yes (j := 2) (t := 27) rfl rfl rfl rfl (s_val (v_indexAddr ty41 ty3 rfl rfl (by first | rfl | assumption) (by first | rfl | exact (rfl : (0 : Int) = ((0 : Nat) : Int)) | exact (Int.toNat_of_nonneg (by omega)).symm) (by first | assumption | exact map_get (by assumption) | rfl) rfl) rfl rfl ?_)
   refine g_step_yes (j := 2) (t := 27) rfl rfl rfl rfl (s_val (by first | exact v_load ty3 rfl rfl (by first | rfl | assumption) (by first | assumption | exact map_get (by assumption) | rfl) rfl | exact v_load_box ty3 rfl rfl (by assumption) rfl) rfl rfl ?_)
   refine g_step_yes (j := 2) (t := 27) rfl rfl rfl rfl (s_val (v_neq rfl rfl) rfl rfl ?_)
   refine g_step rfl (s_val (v_pick_f rfl rfl) rfl rfl ?_)
   refine g_nil ?_
   refine g_next hK11 ?_
   first | refine g_keep [1, 2, 3, 4, 5, 34] [] [] (keep_cons rfl (keep_cons rfl (keep_cons rfl (keep_cons rfl (keep_cons rfl (keep_cons rfl keep_nil)))))) lkeep_nil keep_nil rfl ?_ | refine g_keep [1, 2, 3, 4, 5, 34] [] [] rfl rfl rfl rfl ?_
   refine g_cond rfl (fun hc34 => ?_) (fun hc34 => ?_)
   · exfalso; (try simp only [decide_eq_true_eq, decide_eq_false_iff_not, Bool.not_eq_true', Bool.not_eq_false', Bool.not_eq_eq_eq_not, Bool.not_true, Bool.not_false, Bool.and_eq_true, Bool.or_eq_true, Bool.or_eq_false_iff, beq_iff_eq, beq_eq_false_iff_ne, ne_eq, Int.not_lt, Int.not_le, Decidable.not_not] at hc34); first | exact hc34 hv1 | (simp [hv1] at hc34; done)
   ·
    try simp only [decide_eq_true_eq, decide_eq_false_iff_not, Bool.not_eq_true', Bool.not_eq_false', Bool.not_eq_eq_eq_not, Bool.not_true, Bool.not_false, Bool.and_eq_true, Bool.or_eq_true, Bool.or_eq_false_iff, beq_iff_eq, beq_eq_false_iff_ne, ne_eq, Int.not_lt, Int.not_le, Decidable.not_not] at hc34
    refine g_skip ?_
    refine g_block_normal ?_
    refine g_next hK9 ?_
    refine g_region ?_
    refine g_step rfl (s_val (v_move rfl) rfl rfl ?_)
    refine g_step rfl (s_val (v_add rfl rfl (by omega)) rfl rfl ?_)
    refine g_step rfl (s_val (v_assign rfl) rfl rfl ?_)
    refine g_nil ?_
    first | refine g_keep [1, 2, 3, 4, 5] [] [] (keep_cons rfl (keep_cons rfl (keep_cons rfl (keep_cons rfl (keep_cons rfl keep_nil))))) lkeep_nil keep_nil rfl ?_ | refine g_keep [1, 2, 3, 4, 5] [] [] rfl rfl rfl rfl ?_
    exact g_round _ (by omega) ⟨k + 1, h2, by omega, rfl, rfl, rfl, rfl, ⟨hS2, hR2, hs2⟩⟩
 ·
  try simp only [decide_eq_true_eq, decide_eq_false_iff_not, Bool.not_eq_true', Bool.not_eq_false', Bool.not_eq_eq_eq_not, Bool.not_true, Bool.not_false, Bool.and_eq_true, Bool.or_eq_true, Bool.or_eq_false_iff, beq_iff_eq, beq_eq_false_iff_ne, ne_eq, Int.not_lt, Int.not_le, Decidable.not_not] at hc15
  obtain rfl : k = want.length := by omega
  refine g_exit ?_
  refine g_then_exit ?_
  refine g_then_exit ?_
  refine g_block_same ?_
  refine g_next hK5 ?_
  refine g_seq (fun K12 hK12 => ?_)
  refine g_region ?_
  refine g_step rfl (s_val (v_assign rfl) rfl rfl ?_)
  refine g_nil ?_
  refine g_next hK12 ?_
  refine g_ret ?_
  refine g_end1 (.inl rfl) Try.results21 (.tmp rfl) [] (ASub.refl _) (by first | exact hs_H | exact AHeap.sub_refl _) (fun p hp => by cases hp) ⟨rfl, ?_⟩
  rfl

theorem ringTurns_ok (l : List (List Int)) (draws : List Int) (hl : l.length ≤ 140737488351232) (hl2 : draws.length ≤ 140737488351232) (G : AHeap) : PCalls Try.prog 6 [.imm (l.map encI), .imm (draws.map (.int .i64))] G (fun v => v = .bool true) := by
 refine LCalls.intro 153 fi6 rfl Try.ntmps6 rfl (fun _ h => h.elim) (fun H hH w0 hw0 => ?_)
 refine g_seq (fun K0 hK0 => ?_)
 refine g_region ?_
 refine g_step rfl (s_val (v_assign rfl) rfl rfl ?_)
 refine g_nil ?_
 refine g_next hK0 ?_
 refine g_seq (fun K1 hK1 => ?_)
 refine g_seq (fun K2 hK2 => ?_)
 refine g_region ?_
 refine g_step rfl (s_val (v_move rfl) rfl rfl ?_)
 refine g_step rfl (s_val (v_len ty43 rfl (by first | rfl | assumption) (by first | exact List.length_map .. | rfl)) rfl rfl ?_)
 refine g_step rfl (s_val (v_gtr rfl rfl) rfl rfl ?_)
 refine g_step rfl (s_val (v_move rfl) rfl rfl ?_)
 refine g_split 18 rfl (fun hg18 => ?_) (fun hg18 => ?_)
 ·
  try simp only [decide_eq_true_eq, decide_eq_false_iff_not, Bool.not_eq_true', Bool.not_eq_false', Bool.not_eq_eq_eq_not, Bool.not_true, Bool.not_false, Bool.and_eq_true, Bool.or_eq_true, Bool.or_eq_false_iff, beq_iff_eq, beq_eq_false_iff_ne, ne_eq, Int.not_lt, Int.not_le, Decidable.not_not] at hg18
  refine g_step_no (j := 3) (t := 18) rfl rfl rfl rfl rfl rfl rfl ?_
  refine g_step_no (j := 3) (t := 18) rfl rfl rfl rfl rfl rfl rfl ?_
  refine g_step_no (j := 3) (t := 18) rfl rfl rfl rfl rfl rfl rfl ?_
  refine g_step rfl (s_val (v_pick_t rfl rfl) rfl rfl ?_)
  refine g_nil ?_
  refine g_next hK2 ?_
  refine g_cond rfl (fun _ => ?_) (fun h => by cases h)
  refine g_seq (fun K3 hK3 => ?_)
  refine g_region ?_
  refine g_step rfl (s_callp rfl rfl rfl (awake20_ok _) ?_)
  rintro _ rfl
  refine g_step rfl (s_val (v_assign rfl) rfl rfl ?_)
  refine g_nil ?_
  refine g_next hK3 ?_
  refine g_ret ?_
  refine g_then_ret ?_
  refine g_end1 (.inl rfl) Try.results6 (.tmp rfl) [] (ASub.refl _) (by first | exact hs_H | exact AHeap.sub_refl _) (fun p hp => by cases hp) ⟨rfl, ?_⟩
  rfl
 ·
  try simp only [decide_eq_true_eq, decide_eq_false_iff_not, Bool.not_eq_true', Bool.not_eq_false', Bool.not_eq_eq_eq_not, Bool.not_true, Bool.not_false, Bool.and_eq_true, Bool.or_eq_true, Bool.or_eq_false_iff, beq_iff_eq, beq_eq_false_iff_ne, ne_eq, Int.not_lt, Int.not_le, Decidable.not_not] at hg18
  refine g_step_yes (j := 3) (t := 18) rfl rfl rfl rfl (s_val (v_move rfl) rfl rfl ?_)
  refine g_step_yes (j := 3) (t := 18) rfl rfl rfl rfl (s_val (v_len ty41 rfl (by first | rfl | assumption) (by first | exact List.length_map .. | rfl)) rfl rfl ?_)
  refine g_step_yes (j := 3) (t := 18) rfl rfl rfl rfl (s_val (v_gtr rfl rfl) rfl rfl ?_)
  refine g_step rfl (s_val (v_pick_f rfl rfl) rfl rfl ?_)
  refine g_nil ?_
  refine g_next hK2 ?_
  refine g_cond rfl (fun hc22 => ?_) (fun hc22 => ?_)
  ·
   try simp only [decide_eq_true_eq, decide_eq_false_iff_not, Bool.not_eq_true', Bool.not_eq_false', Bool.not_eq_eq_eq_not, Bool.not_true, Bool.not_false, Bool.and_eq_true, Bool.or_eq_true, Bool.or_eq_false_iff, beq_iff_eq, beq_eq_false_iff_ne, ne_eq, Int.not_lt, Int.not_le, Decidable.not_not] at hc22
   refine g_seq (fun K4 hK4 => ?_)
   refine g_region ?_
   refine g_step rfl (s_callp rfl rfl rfl (awake20_ok _) ?_)
   rintro _ rfl
   refine g_step rfl (s_val (v_assign rfl) rfl rfl ?_)
   refine g_nil ?_
   refine g_next hK4 ?_
   refine g_ret ?_
   refine g_then_ret ?_
   refine g_end1 (.inl rfl) Try.results6 (.tmp rfl) [] (ASub.refl _) (by first | exact hs_H | exact AHeap.sub_refl _) (fun p hp => by cases hp) ⟨rfl, ?_⟩
   rfl
  ·
   try simp only [decide_eq_true_eq, decide_eq_false_iff_not, Bool.not_eq_true', Bool.not_eq_false', Bool.not_eq_eq_eq_not, Bool.not_true, Bool.not_false, Bool.and_eq_true, Bool.or_eq_true, Bool.or_eq_false_iff, beq_iff_eq, beq_eq_false_iff_ne, ne_eq, Int.not_lt, Int.not_le, Decidable.not_not] at hc22
   refine g_skip ?_
   refine g_next hK1 ?_
   refine g_seq (fun K5 hK5 => ?_)
   refine g_region ?_
   refine g_step rfl (s_call rfl rfl rfl (ringNew_ok _) (fun _ h => h.elim) ?_)
   rintro n1 _ effs1 hn1 hdom1 ⟨p, hp1, rfl, rfl⟩ hok1
   have hw_p : w0.heap.size ≤ p := Nat.le_trans hn1 hp1
   refine g_step rfl (s_val (v_assign rfl) rfl rfl ?_)
   refine g_nil ?_
   refine g_next hK5 ?_
   refine g_seq (fun K6 hK6 => ?_)
   refine g_region ?_
   refine g_step rfl (s_val (v_move rfl) rfl rfl ?_)
   refine g_step rfl (s_call rfl rfl rfl (new_ok draws _ _ rfl (by omega)) (fun _ h => h.elim) ?_)
   rintro n2 _ effs2 hn2 hdom2 ⟨q, hq1, rfl, rfl⟩ hok2
   have hw_q : w0.heap.size ≤ q := Nat.le_trans hn2 hq1
   obtain ⟨h0, hS, hR, hs_H⟩ := ring_start draws hw_p hw_q (box_ne hdom2 hq1) hw0
   refine g_step rfl (s_val (v_assign rfl) rfl rfl ?_)
   refine g_nil ?_
   refine g_next hK6 ?_
   refine g_seq (fun K7 hK7 => ?_)
   refine g_region ?_
   refine g_step rfl (s_val (v_move rfl) rfl rfl ?_)
   refine g_step rfl (s_call rfl rfl rfl (new_ok draws _ _ rfl (by omega)) (fun _ h => h.elim) ?_)
   rintro n3 _ effs3 hn3 hdom3 ⟨e, he1, rfl, rfl⟩ hok3
   have hw_e : w0.heap.size ≤ e := Nat.le_trans hn3 he1
   have hze := hdom3 _ he1
   have hS0 := hS.put (l1 := [h0]) (l2 := [noH]) (r := e) (x := .box (.agg [encI draws])) (.inl ⟨hze, hw_e⟩)
   have hs0 := sub_set' hs_H (hw0 _ hw_e) (x := .box (.agg [encI draws]))
   refine g_step rfl (s_val (v_assign rfl) rfl rfl ?_)
   refine g_nil ?_
   refine g_next hK7 ?_
   refine g_seq (fun K8 hK8 => ?_)
   refine g_region ?_
   refine g_step rfl (s_val (v_assign rfl) rfl rfl ?_)
   refine g_nil ?_
   refine g_next hK8 ?_
   refine g_seq (fun K9 hK9 => ?_)
   refine g_region ?_
   refine g_step rfl (s_val (v_assign rfl) rfl rfl ?_)
   refine g_nil ?_
   refine g_next hK9 ?_
   refine g_seq (fun K10 hK10 => ?_)
   refine g_seq (fun K11 hK11 => ?_)
   refine g_region ?_
   refine g_sub 8 rfl ASub.nil0 ?_
   rw [show ([] : List AV) = ([] : List Int).map (.int .i64) from rfl]
   refine g_step rfl (s_val (v_assign rfl) rfl rfl ?_)
   refine g_nil ?_
   refine g_next hK11 ?_
   refine g_block ?_
   first | refine g_keep [0, 5, 6, 7, 8, 9, 10] [] [] (keep_cons rfl (keep_cons rfl (keep_cons rfl (keep_cons rfl (keep_cons rfl (keep_cons rfl (keep_cons rfl keep_nil))))))) lkeep_nil keep_nil rfl ?_ | refine g_keep [0, 5, 6, 7, 8, 9, 10] [] [] rfl rfl rfl rfl ?_
   refine g_loop (fun n env L B G => ∃ (k : Nat) (s : Rg) (h1 h3 : AHeap) (ad : AV), k ≤ l.length ∧ n = l.length - k ∧ env = [(0, .imm (l.map encI)), (5, .box p 0), (6, .box q 0), (7, .box e 0), (8, .imm (s.left.map (.int .i64))), (9, ad), (10, .int .i64 (k : Int))] ∧ L = [] ∧ B = [] ∧ Sep w0.heap.size G [h1, oneH e (.box (.agg [encI s.ds])), h3] ∧ RIs h1 p q s ∧ SV h3 1 ad (s.done.map (.int .i64)) ∧ H.sub G ∧ s.left.length + s.done.length ≤ 12 * k) (l.length) ⟨0, ⟨[], [], draws⟩, h0, noH, .nil0, Nat.zero_le _, rfl, rfl, rfl, rfl, ⟨hS0, hR, .inl ⟨rfl, rfl⟩, hs0, by simp⟩⟩ (fun n env L B G hI => ?_)
   obtain ⟨k, s, h1, h3, ad, hk, rfl, rfl, rfl, rfl, hS, hR, hD, hs_H, hsz⟩ := hI
   refine g_seq (fun K12 hK12 => ?_)
   refine g_seq (fun K13 hK13 => ?_)
   refine g_region ?_
   refine g_step rfl (s_val (v_move rfl) rfl rfl ?_)
   refine g_step rfl (s_val (v_move rfl) rfl rfl ?_)
   refine g_step rfl (s_val (v_len ty43 rfl (by first | rfl | assumption) (by first | exact List.length_map .. | rfl)) rfl rfl ?_)
   refine g_step rfl (s_val (v_lss rfl rfl) rfl rfl ?_)
   refine g_nil ?_
   refine g_next hK13 ?_
   refine g_cond rfl (fun hc32 => ?_) (fun hc32 => ?_)
   ·
    try simp only [decide_eq_true_eq, decide_eq_false_iff_not, Bool.not_eq_true', Bool.not_eq_false', Bool.not_eq_eq_eq_not, Bool.not_true, Bool.not_false, Bool.and_eq_true, Bool.or_eq_true, Bool.or_eq_false_iff, beq_iff_eq, beq_eq_false_iff_ne, ne_eq, Int.not_lt, Int.not_le, Decidable.not_not] at hc32
    obtain ⟨x, hx⟩ := get_some (l := l) (k := k) (by omega)
    refine g_skip ?_
    refine g_next hK12 ?_
    refine g_seq (fun K14 hK14 => ?_)
    refine g_block ?_
    refine g_seq (fun K15 hK15 => ?_)
    refine g_seq (fun K16 hK16 => ?_)
    refine g_region ?_
    refine g_step rfl (s_val (v_move rfl) rfl rfl ?_)
    refine g_step rfl (s_val (v_move rfl) rfl rfl ?_)
    refine g_step rfl (s_val (v_indexAddr ty43 ty41 rfl rfl (by first | rfl | assumption) (by first | rfl | exact (rfl : (0 : Int) = ((0 : Nat) : Int)) | exact (Int.toNat_of_nonneg (by omega)).symm) (by first | assumption | exact map_get (by assumption) | rfl) rfl) rfl rfl ?_)
    refine g_step rfl (s_val (by first | exact v_load ty41 rfl rfl (by first | rfl | assumption) (by first | assumption | exact map_get (by assumption) | rfl) rfl | exact v_load_box ty41 rfl rfl (by assumption) rfl) rfl rfl ?_)
    refine g_step rfl (s_val (v_len ty41 rfl (by first | rfl | assumption) (by first | exact List.length_map .. | rfl)) rfl rfl ?_)
    refine g_step rfl (s_val (v_gtr rfl rfl) rfl rfl ?_)
    refine g_nil ?_
    refine g_next hK16 ?_
    refine g_cond rfl (fun hc40 => ?_) (fun hc40 => ?_)
    ·
     try simp only [decide_eq_true_eq, decide_eq_false_iff_not, Bool.not_eq_true', Bool.not_eq_false', Bool.not_eq_eq_eq_not, Bool.not_true, Bool.not_false, Bool.and_eq_true, Bool.or_eq_true, Bool.or_eq_false_iff, beq_iff_eq, beq_eq_false_iff_ne, ne_eq, Int.not_lt, Int.not_le, Decidable.not_not] at hc40
     refine g_seq (fun K17 hK17 => ?_)
     refine g_region ?_
     refine g_step rfl (s_callp rfl rfl rfl (awake20_ok _) ?_)
     rintro _ rfl
     refine g_step rfl (s_val (v_assign rfl) rfl rfl ?_)
     refine g_nil ?_
     refine g_next hK17 ?_
     refine g_ret ?_
     refine g_then_ret ?_
     refine g_block_ret ?_
     refine g_then_ret ?_
     refine g_then_ret ?_
     refine g_block_ret ?_
     refine g_then_ret ?_
     refine g_end1 (.inl rfl) Try.results6 (.tmp rfl) [] (ASub.refl _) (by first | exact hs_H | exact AHeap.sub_refl _) (fun p hp => by cases hp) ⟨rfl, ?_⟩
     rfl
    ·
     try simp only [decide_eq_true_eq, decide_eq_false_iff_not, Bool.not_eq_true', Bool.not_eq_false', Bool.not_eq_eq_eq_not, Bool.not_true, Bool.not_false, Bool.and_eq_true, Bool.or_eq_true, Bool.or_eq_false_iff, beq_iff_eq, beq_eq_false_iff_ne, ne_eq, Int.not_lt, Int.not_le, Decidable.not_not] at hc40
     obtain ⟨hb1, hb2, hb3⟩ : s.left.length ≤ 400 ∧ s.done.length ≤ 400 ∧ x.length ≤ 12 := ⟨by omega, by omega, by omega⟩
     have hal := setOf_len x
     have hsl1 := stay_len x s.left
     have hsl2 := stay_len (setOf x) s.done
     refine g_skip ?_
     refine g_next hK15 ?_
     refine g_seq (fun K18 hK18 => ?_)
     refine g_region ?_
     refine g_step rfl (s_val (v_move rfl) rfl rfl ?_)
     refine g_step rfl (s_val (v_move rfl) rfl rfl ?_)
     refine g_step rfl (s_val (v_move rfl) rfl rfl ?_)
     refine g_step rfl (s_val (v_indexAddr ty43 ty41 rfl rfl (by first | rfl | assumption) (by first | rfl | exact (rfl : (0 : Int) = ((0 : Nat) : Int)) | exact (Int.toNat_of_nonneg (by omega)).symm) (by first | assumption | exact map_get (by assumption) | rfl) rfl) rfl rfl ?_)
     refine g_step rfl (s_val (by first | exact v_load ty41 rfl rfl (by first | rfl | assumption) (by first | assumption | exact map_get (by assumption) | rfl) rfl | exact v_load_box ty41 rfl rfl (by assumption) rfl) rfl rfl ?_)
     refine g_step rfl (s_val (v_move rfl) rfl rfl ?_)
     refine g_step rfl (s_call rfl rfl rfl (rNext_ok h1 p q s x (encI x) _ hR (hS.1 h1 (by simp)).1 rfl (by omega) (by omega) (by omega)) (fun b hb => .inr ((hS.1 h1 (by simp)).2 b hb)) ?_)
     rintro n4 v4 effs4 hn4 hdom4 ⟨rfl, h2, hE, hR2⟩ hok4
     have hS2 := hS.turn (l1 := []) hE hn4 hdom4
     have hs2 := hE.frame hdom4 hs_H (fun b hb => hw0 b ((hS.1 h1 (by simp)).2 b hb))
     generalize hG2 : setAll G effs4 = G2
     rw [hG2] at hS2 hs2
     refine g_step rfl (s_val (v_move rfl) rfl rfl ?_)
     refine g_step rfl (s_val (v_extract rfl rfl) rfl rfl ?_)
     refine g_step rfl (s_val (v_extract rfl rfl) rfl rfl ?_)
     refine g_step rfl (s_val (v_assign rfl) rfl rfl ?_)
     refine g_step rfl (s_val (v_assign rfl) rfl rfl ?_)
     refine g_nil ?_
     refine g_next hK18 ?_
     first | refine g_keep [0, 5, 6, 7, 8, 9, 10, 11, 12] [] [] (keep_cons rfl (keep_cons rfl (keep_cons rfl (keep_cons rfl (keep_cons rfl (keep_cons rfl (keep_cons rfl (keep_cons rfl (keep_cons rfl keep_nil))))))))) lkeep_nil keep_nil rfl ?_ | refine g_keep [0, 5, 6, 7, 8, 9, 10, 11, 12] [] [] rfl rfl rfl rfl ?_
     refine g_seq (fun K19 hK19 => ?_)
     refine g_region ?_
     refine g_step rfl (s_val (v_move rfl) rfl rfl ?_)
     refine g_step rfl (s_val (v_move rfl) rfl rfl ?_)
     refine g_step rfl (s_val (v_move rfl) rfl rfl ?_)
     refine g_step rfl (s_val (v_indexAddr ty43 ty41 rfl rfl (by first | rfl | assumption) (by first | rfl | exact (rfl : (0 : Int) = ((0 : Nat) : Int)) | exact (Int.toNat_of_nonneg (by omega)).symm) (by first | assumption | exact map_get (by assumption) | rfl) rfl) rfl rfl ?_)
     refine g_step rfl (s_val (by first | exact v_load ty41 rfl rfl (by first | rfl | assumption) (by first | assumption | exact map_get (by assumption) | rfl) rfl | exact v_load_box ty41 rfl rfl (by assumption) rfl) rfl rfl ?_)
     refine g_step rfl (s_callp rfl rfl rfl (among_ok s.left x _ _ _ rfl rfl (by omega) (by omega)) ?_)
     rintro _ rfl
     refine g_step rfl (s_val (v_assign rfl) rfl rfl ?_)
     refine g_nil ?_
     refine g_next hK19 ?_
     refine g_seq (fun K20 hK20 => ?_)
     refine g_region ?_
     refine g_step rfl (s_val (v_move rfl) rfl rfl ?_)
     refine g_step rfl (s_val (v_move rfl) rfl rfl ?_)
     refine g_step rfl (s_val (v_move rfl) rfl rfl ?_)
     refine g_step rfl (s_val (v_indexAddr ty43 ty41 rfl rfl (by first | rfl | assumption) (by first | rfl | exact (rfl : (0 : Int) = ((0 : Nat) : Int)) | exact (Int.toNat_of_nonneg (by omega)).symm) (by first | assumption | exact map_get (by assumption) | rfl) rfl) rfl rfl ?_)
     refine g_step rfl (s_val (by first | exact v_load ty41 rfl rfl (by first | rfl | assumption) (by first | assumption | exact map_get (by assumption) | rfl) rfl | exact v_load_box ty41 rfl rfl (by assumption) rfl) rfl rfl ?_)
     refine g_step rfl (s_call rfl rfl rfl (amongO s.done x _ ad _ ((hD.mono (hS2.1 h3 (by simp)).1).view) rfl (by omega) (by omega)) (fun _ h => h.elim) ?_)
     rintro n5 v5 effs5 hn5 hdom5 hO5 hok5
     obtain ⟨h4, hE4, hD4⟩ := ownR_part hO5
     have hS4 := hS2.fresh (l1 := [h2, oneH e (.box (.agg [encI s.ds]))]) (l2 := []) hE4 hn5 hdom5
     have hs4 := hE4.frame hdom5 hs2 (fun b hb => absurd rfl hb)
     generalize hG4 : setAll G2 effs5 = G4
     rw [hG4] at hS4 hs4
     refine g_step rfl (s_val (v_assign rfl) rfl rfl ?_)
     refine g_nil ?_
     refine g_next hK20 ?_
     refine g_seq (fun K21 hK21 => ?_)
     refine g_region ?_
     refine g_step rfl (s_val (v_move rfl) rfl rfl ?_)
     refine g_step rfl (s_val (v_move rfl) rfl rfl ?_)
     refine g_step rfl (s_val (v_indexAddr ty43 ty41 rfl rfl (by first | rfl | assumption) (by first | rfl | exact (rfl : (0 : Int) = ((0 : Nat) : Int)) | exact (Int.toNat_of_nonneg (by omega)).symm) (by first | assumption | exact map_get (by assumption) | rfl) rfl) rfl rfl ?_)
     refine g_step rfl (s_val (by first | exact v_load ty41 rfl rfl (by first | rfl | assumption) (by first | assumption | exact map_get (by assumption) | rfl) rfl | exact v_load_box ty41 rfl rfl (by assumption) rfl) rfl rfl ?_)
     refine g_step rfl (s_callp rfl rfl rfl (rising_ok x _ _ rfl (by omega)) ?_)
     rintro _ rfl
     refine g_step rfl (s_val (v_assign rfl) rfl rfl ?_)
     refine g_nil ?_
     refine g_next hK21 ?_
     first | refine g_keep [0, 5, 6, 7, 8, 9, 10, 11, 12, 13] [] [] (keep_cons rfl (keep_cons rfl (keep_cons rfl (keep_cons rfl (keep_cons rfl (keep_cons rfl (keep_cons rfl (keep_cons rfl (keep_cons rfl (keep_cons rfl keep_nil)))))))))) lkeep_nil keep_nil rfl ?_ | refine g_keep [0, 5, 6, 7, 8, 9, 10, 11, 12, 13] [] [] rfl rfl rfl rfl ?_
     refine g_seq (fun K22 hK22 => ?_)
     refine g_seq (fun K23 hK23 => ?_)
     refine g_region ?_
     rw [← stay_set x s.left]
     rw [← stay_set x s.done] at hD4
     refine g_step rfl (s_val (v_assign rfl) rfl rfl ?_)
     refine g_nil ?_
     refine g_next hK23 ?_
     refine g_block ?_
     first | refine g_keep [0, 5, 6, 7, 8, 9, 10, 11, 12, 13, 14] [] [] (keep_cons rfl (keep_cons rfl (keep_cons rfl (keep_cons rfl (keep_cons rfl (keep_cons rfl (keep_cons rfl (keep_cons rfl (keep_cons rfl (keep_cons rfl (keep_cons rfl keep_nil))))))))))) lkeep_nil keep_nil rfl ?_ | refine g_keep [0, 5, 6, 7, 8, 9, 10, 11, 12, 13, 14] [] [] rfl rfl rfl rfl ?_
     refine g_loop (fun n env L B G => ∃ (j : Nat) (Q : List Int) (ds : List Int), j ≤ (setOf x).length ∧ n = (setOf x).length - j ∧ env = [(0, .imm (l.map encI)), (5, .box p 0), (6, .box q 0), (7, .box e 0), (8, .imm (Q.map (.int .i64))), (9, v5), (10, .int .i64 (k : Int)), (11, .int .i64 (rNext s x).2.1), (12, .bool (rNext s x).2.2), (13, .imm ((setOf x).map (.int .i64))), (14, .int .i64 (j : Int))] ∧ L = [] ∧ B = [] ∧ addUpTo s x j = (Q, ds) ∧ Sep w0.heap.size G [h2, oneH e (.box (.agg [encI ds])), h4] ∧ H.sub G) ((setOf x).length) ⟨0, stay (setOf x) s.left, s.ds, Nat.zero_le _, rfl, rfl, rfl, rfl, ⟨rfl, hS4, hs4⟩⟩ (fun n env L B G hI => ?_)
     obtain ⟨j, Q, ds, hj, rfl, rfl, rfl, rfl, hst, hSj, hsj⟩ := hI
     have hulj : Q.length ≤ s.left.length + j := by have h9 := addUpTo_len s x j; rw [hst] at h9; exact h9
     refine g_seq (fun K24 hK24 => ?_)
     refine g_seq (fun K25 hK25 => ?_)
     refine g_region ?_
     refine g_step rfl (s_val (v_move rfl) rfl rfl ?_)
     refine g_step rfl (s_val (v_move rfl) rfl rfl ?_)
     refine g_step rfl (s_val (v_len ty41 rfl (by first | rfl | assumption) (by first | exact List.length_map .. | rfl)) rfl rfl ?_)
     refine g_step rfl (s_val (v_lss rfl rfl) rfl rfl ?_)
     refine g_nil ?_
     refine g_next hK25 ?_
     refine g_cond rfl (fun hc72 => ?_) (fun hc72 => ?_)
     ·
      try simp only [decide_eq_true_eq, decide_eq_false_iff_not, Bool.not_eq_true', Bool.not_eq_false', Bool.not_eq_eq_eq_not, Bool.not_true, Bool.not_false, Bool.and_eq_true, Bool.or_eq_true, Bool.or_eq_false_iff, beq_iff_eq, beq_eq_false_iff_ne, ne_eq, Int.not_lt, Int.not_le, Decidable.not_not] at hc72
      obtain ⟨y, hy⟩ := get_some (l := (setOf x)) (k := j) (by omega)
      refine g_skip ?_
      refine g_next hK24 ?_
      refine g_seq (fun K26 hK26 => ?_)
      refine g_block ?_
      refine g_seq (fun K27 hK27 => ?_)
      refine g_region ?_
      refine g_step rfl (s_val (v_move rfl) rfl rfl ?_)
      refine g_step rfl (s_val (v_move rfl) rfl rfl ?_)
      refine g_step rfl (s_val (v_move rfl) rfl rfl ?_)
      refine g_step rfl (s_val (v_indexAddr ty41 ty3 rfl rfl (by first | rfl | assumption) (by first | rfl | exact (rfl : (0 : Int) = ((0 : Nat) : Int)) | exact (Int.toNat_of_nonneg (by omega)).symm) (by first | assumption | exact map_get (by assumption) | rfl) rfl) rfl rfl ?_)
      refine g_step rfl (s_val (by first | exact v_load ty3 rfl rfl (by first | rfl | assumption) (by first | assumption | exact map_get (by assumption) | rfl) rfl | exact v_load_box ty3 rfl rfl (by assumption) rfl) rfl rfl ?_)
      refine g_step rfl (s_callp rfl rfl rfl (has20_ok Q y _ _ rfl (by omega)) ?_)
      rintro _ rfl
      refine g_step rfl (s_val (v_not rfl) rfl rfl ?_)
      refine g_step rfl (s_val (v_move rfl) rfl rfl ?_)
      refine g_split 82 rfl (fun hg82 => ?_) (fun hg82 => ?_)
      ·
       try simp only [decide_eq_true_eq, decide_eq_false_iff_not, Bool.not_eq_true', Bool.not_eq_false', Bool.not_eq_eq_eq_not, Bool.not_true, Bool.not_false, Bool.and_eq_true, Bool.or_eq_true, Bool.or_eq_false_iff, beq_iff_eq, beq_eq_false_iff_ne, ne_eq, Int.not_lt, Int.not_le, Decidable.not_not] at hg82
       refine g_step_yes (j := 7) (t := 82) rfl rfl rfl rfl (s_val (v_move rfl) rfl rfl ?_)
       refine g_step_yes (j := 7) (t := 82) rfl rfl rfl rfl (s_val (v_move rfl) rfl rfl ?_)
       refine g_step_yes (j := 7) (t := 82) rfl rfl rfl rfl (s_val (v_move rfl) rfl rfl ?_)
       refine g_step_yes (j := 7) (t := 82) rfl rfl rfl rfl (s_val (v_indexAddr ty41 ty3 rfl rfl (by first | rfl | assumption) (by first | rfl | exact (rfl : (0 : Int) = ((0 : Nat) : Int)) | exact (Int.toNat_of_nonneg (by omega)).symm) (by first | assumption | exact map_get (by assumption) | rfl) rfl) rfl rfl ?_)
       refine g_step_yes (j := 7) (t := 82) rfl rfl rfl rfl (s_val (by first | exact v_load ty3 rfl rfl (by first | rfl | assumption) (by first | assumption | exact map_get (by assumption) | rfl) rfl | exact v_load_box ty3 rfl rfl (by assumption) rfl) rfl rfl ?_)
       refine g_step_yes (j := 7) (t := 82) rfl rfl rfl rfl (s_callp rfl rfl rfl (has20_ok (stay (setOf x) s.done) y _ v5 ((hD4.mono (hSj.1 h4 (by simp)).1).view) (by omega)) ?_)
       rintro _ rfl
       refine g_step_yes (j := 7) (t := 82) rfl rfl rfl rfl (s_val (v_not rfl) rfl rfl ?_)
       refine g_step rfl (s_val (v_pick_t rfl rfl) rfl rfl ?_)
       refine g_nil ?_
       refine g_next hK27 ?_
       first | refine g_keep [0, 5, 6, 7, 8, 9, 10, 11, 12, 13, 14, 90] [] [] (keep_cons rfl (keep_cons rfl (keep_cons rfl (keep_cons rfl (keep_cons rfl (keep_cons rfl (keep_cons rfl (keep_cons rfl (keep_cons rfl (keep_cons rfl (keep_cons rfl (keep_cons rfl keep_nil)))))))))))) lkeep_nil keep_nil rfl ?_ | refine g_keep [0, 5, 6, 7, 8, 9, 10, 11, 12, 13, 14, 90] [] [] rfl rfl rfl rfl ?_
       refine g_cond rfl (fun hc90 => ?_) (fun hc90 => ?_)
       ·
        try simp only [decide_eq_true_eq, decide_eq_false_iff_not, Bool.not_eq_true', Bool.not_eq_false', Bool.not_eq_eq_eq_not, Bool.not_true, Bool.not_false, Bool.and_eq_true, Bool.or_eq_true, Bool.or_eq_false_iff, beq_iff_eq, beq_eq_false_iff_ne, ne_eq, Int.not_lt, Int.not_le, Decidable.not_not] at hc90
        refine g_draw (n := 12) (fun j => !([5] : List Nat).contains j) rfl rfl ?_
        refine m_take 0 false rfl rfl (by kernel_rfl) (by kernel_rfl) (by kernel_rfl) (fun _ _ _ _ h => h) (v_move rfl) rfl rfl ?_
        refine m_take 1 false rfl rfl (by kernel_rfl) (by kernel_rfl) (by kernel_rfl) (fun _ _ _ _ h => h) (v_move rfl) rfl rfl ?_
        refine m_take 2 false rfl rfl (by kernel_rfl) (by kernel_rfl) (by kernel_rfl) (fun _ _ _ _ h => h) (v_move rfl) rfl rfl ?_
        refine m_take 3 false rfl rfl (by kernel_rfl) (by kernel_rfl) (by kernel_rfl) (fun _ _ _ _ h => h) (v_len ty41 rfl (by first | rfl | assumption) (by first | exact List.length_map .. | rfl)) rfl rfl ?_
        refine m_take 4 false rfl rfl (by kernel_rfl) (by kernel_rfl) (by kernel_rfl) (fun _ _ _ _ h => h) (v_add rfl rfl (by omega)) rfl rfl ?_
        refine m_take 6 false rfl rfl (by kernel_rfl) (by kernel_rfl) (by kernel_rfl) (fun _ _ _ _ h => h) (v_move rfl) rfl rfl ?_
        refine m_take 7 false rfl rfl (by kernel_rfl) (by kernel_rfl) (by kernel_rfl) (fun _ _ _ _ h => h) (v_move rfl) rfl rfl ?_
        refine m_take 8 false rfl rfl (by kernel_rfl) (by kernel_rfl) (by kernel_rfl) (fun _ _ _ _ h => h) (v_indexAddr ty41 ty3 rfl rfl (by first | rfl | assumption) (by first | rfl | exact (rfl : (0 : Int) = ((0 : Nat) : Int)) | exact (Int.toNat_of_nonneg (by omega)).symm) (by first | assumption | exact map_get (by assumption) | rfl) rfl) rfl rfl ?_
        refine m_all (is := [5, 9]) (by kernel_rfl) rfl (fun _ _ _ => trivial) (fun i hi => ?_)
        rcases (by simpa using hi : i = 5 ∨ i = 9) with rfl | rfl
        ·
         refine ⟨_, rfl, .inl ⟨rfl, ?_⟩⟩
         refine sm_any rfl (s_call rfl rfl rfl (next_ok e ds ((Q.length : Int) + 1) _ ((hSj.1 (oneH e (.box (.agg [encI ds]))) (by simp)).1 _ _ (oneH_get _ _)) (by omega)) (fun b hb => .inr (by subst hb; exact hw_e)) ?_)
         rintro n6 v6 effs6 hn6 hdom6 ⟨rfl, rfl⟩ hok6
         obtain ⟨at', ha1, ha2, ha3⟩ := dNext_at ds Q.length
         rw [ha1]
         have hS6 := hSj.put (l1 := [h2]) (l2 := [h4]) (r := e) (x := .box (.agg [encI (dRest ds ((Q.length : Int) + 1))])) (.inr (by rw [oneH_get]; simp))
         have hs6 := sub_set' hsj (hw0 _ hw_e) (x := .box (.agg [encI (dRest ds ((Q.length : Int) + 1))]))
         refine m_take 9 true rfl rfl (by kernel_rfl) (by kernel_rfl) (by kernel_rfl) (fun _ _ _ _ h => h) (by first | exact v_load ty3 rfl rfl (by first | rfl | assumption) (by first | assumption | exact map_get (by assumption) | rfl) rfl | exact v_load_box ty3 rfl rfl (by assumption) rfl) rfl rfl ?_
         refine m_one 10 (by kernel_rfl) rfl rfl ?_
         refine sm_callp rfl rfl rfl (put20_ok Q at' (at' : Int) y rfl ha2 (by omega) _) ?_
         rintro _ rfl
         refine m_take 11 false rfl rfl (by kernel_rfl) (by kernel_rfl) (by kernel_rfl) (fun _ _ _ _ h => h) (v_assign rfl) rfl rfl ?_
         refine m_done (by kernel_rfl) ?_
         refine g_block_normal ?_
         refine g_next hK26 ?_
         refine g_region ?_
         refine g_step rfl (s_val (v_move rfl) rfl rfl ?_)
         refine g_step rfl (s_val (v_add rfl rfl (by omega)) rfl rfl ?_)
         refine g_step rfl (s_val (v_assign rfl) rfl rfl ?_)
         refine g_nil ?_
         first | refine g_keep [0, 5, 6, 7, 8, 9, 10, 11, 12, 13, 14] [] [] (keep_cons rfl (keep_cons rfl (keep_cons rfl (keep_cons rfl (keep_cons rfl (keep_cons rfl (keep_cons rfl (keep_cons rfl (keep_cons rfl (keep_cons rfl (keep_cons rfl keep_nil))))))))))) lkeep_nil keep_nil rfl ?_ | refine g_keep [0, 5, 6, 7, 8, 9, 10, 11, 12, 13, 14] [] [] rfl rfl rfl rfl ?_
         first | exact g_round _ (by omega) ⟨j + 1, insAt Q at' y, dRest ds ((Q.length : Int) + 1), by omega, rfl, rfl, rfl, rfl, ⟨by rw [addUpTo_snoc hy, hst, addOne, if_neg (by rintro (h9 | h9); (first | exact hg82 h9 | exact absurd h9 (by simpa using hg82)); (first | exact hc90 h9 | exact absurd h9 (by simpa using hc90)))]; show (insAt Q (dNext ds ((Q.length : Int) + 1)).toNat y, _) = _; rw [ha3], hS6, hs6⟩⟩ | exact g_round _ (by omega) ⟨j + 1, Q, ds, by omega, rfl, rfl, rfl, rfl, ⟨by rw [addUpTo_snoc hy, hst, addOne, if_pos (by first | exact .inl hg82 | exact .inr hc90 | exact .inl (by simpa using hg82) | exact .inr (by simpa using hc90))], hSj, hsj⟩⟩
        ·
         refine ⟨_, rfl, .inl ⟨rfl, ?_⟩⟩
         refine sm_val (by first | exact v_load ty3 rfl rfl (by first | rfl | assumption) (by first | assumption | exact map_get (by assumption) | rfl) rfl | exact v_load_box ty3 rfl rfl (by assumption) rfl) rfl rfl ?_
         refine m_one 5 (by kernel_rfl) rfl rfl ?_
         refine sm_any rfl (s_call rfl rfl rfl (next_ok e ds ((Q.length : Int) + 1) _ ((hSj.1 (oneH e (.box (.agg [encI ds]))) (by simp)).1 _ _ (oneH_get _ _)) (by omega)) (fun b hb => .inr (by subst hb; exact hw_e)) ?_)
         rintro n6 v6 effs6 hn6 hdom6 ⟨rfl, rfl⟩ hok6
         obtain ⟨at', ha1, ha2, ha3⟩ := dNext_at ds Q.length
         rw [ha1]
         have hS6 := hSj.put (l1 := [h2]) (l2 := [h4]) (r := e) (x := .box (.agg [encI (dRest ds ((Q.length : Int) + 1))])) (.inr (by rw [oneH_get]; simp))
         have hs6 := sub_set' hsj (hw0 _ hw_e) (x := .box (.agg [encI (dRest ds ((Q.length : Int) + 1))]))
         refine m_one 10 (by kernel_rfl) rfl rfl ?_
         refine sm_callp rfl rfl rfl (put20_ok Q at' (at' : Int) y rfl ha2 (by omega) _) ?_
         rintro _ rfl
         refine m_take 11 false rfl rfl (by kernel_rfl) (by kernel_rfl) (by kernel_rfl) (fun _ _ _ _ h => h) (v_assign rfl) rfl rfl ?_
         refine m_done (by kernel_rfl) ?_
         refine g_block_normal ?_
         refine g_next hK26 ?_
         refine g_region ?_
         refine g_step rfl (s_val (v_move rfl) rfl rfl ?_)
         refine g_step rfl (s_val (v_add rfl rfl (by omega)) rfl rfl ?_)
         refine g_step rfl (s_val (v_assign rfl) rfl rfl ?_)
         refine g_nil ?_
         first | refine g_keep [0, 5, 6, 7, 8, 9, 10, 11, 12, 13, 14] [] [] (keep_cons rfl (keep_cons rfl (keep_cons rfl (keep_cons rfl (keep_cons rfl (keep_cons rfl (keep_cons rfl (keep_cons rfl (keep_cons rfl (keep_cons rfl (keep_cons rfl keep_nil))))))))))) lkeep_nil keep_nil rfl ?_ | refine g_keep [0, 5, 6, 7, 8, 9, 10, 11, 12, 13, 14] [] [] rfl rfl rfl rfl ?_
         first | exact g_round _ (by omega) ⟨j + 1, insAt Q at' y, dRest ds ((Q.length : Int) + 1), by omega, rfl, rfl, rfl, rfl, ⟨by rw [addUpTo_snoc hy, hst, addOne, if_neg (by rintro (h9 | h9); (first | exact hg82 h9 | exact absurd h9 (by simpa using hg82)); (first | exact hc90 h9 | exact absurd h9 (by simpa using hc90)))]; show (insAt Q (dNext ds ((Q.length : Int) + 1)).toNat y, _) = _; rw [ha3], hS6, hs6⟩⟩ | exact g_round _ (by omega) ⟨j + 1, Q, ds, by omega, rfl, rfl, rfl, rfl, ⟨by rw [addUpTo_snoc hy, hst, addOne, if_pos (by first | exact .inl hg82 | exact .inr hc90 | exact .inl (by simpa using hg82) | exact .inr (by simpa using hc90))], hSj, hsj⟩⟩
       ·
        try simp only [decide_eq_true_eq, decide_eq_false_iff_not, Bool.not_eq_true', Bool.not_eq_false', Bool.not_eq_eq_eq_not, Bool.not_true, Bool.not_false, Bool.and_eq_true, Bool.or_eq_true, Bool.or_eq_false_iff, beq_iff_eq, beq_eq_false_iff_ne, ne_eq, Int.not_lt, Int.not_le, Decidable.not_not] at hc90
        refine g_skip ?_
        refine g_block_normal ?_
        refine g_next hK26 ?_
        refine g_region ?_
        refine g_step rfl (s_val (v_move rfl) rfl rfl ?_)
        refine g_step rfl (s_val (v_add rfl rfl (by omega)) rfl rfl ?_)
        refine g_step rfl (s_val (v_assign rfl) rfl rfl ?_)
        refine g_nil ?_
        first | refine g_keep [0, 5, 6, 7, 8, 9, 10, 11, 12, 13, 14] [] [] (keep_cons rfl (keep_cons rfl (keep_cons rfl (keep_cons rfl (keep_cons rfl (keep_cons rfl (keep_cons rfl (keep_cons rfl (keep_cons rfl (keep_cons rfl (keep_cons rfl keep_nil))))))))))) lkeep_nil keep_nil rfl ?_ | refine g_keep [0, 5, 6, 7, 8, 9, 10, 11, 12, 13, 14] [] [] rfl rfl rfl rfl ?_
        first | exact g_round _ (by omega) ⟨j + 1, insAt Q at' y, dRest ds ((Q.length : Int) + 1), by omega, rfl, rfl, rfl, rfl, ⟨by rw [addUpTo_snoc hy, hst, addOne, if_neg (by rintro (h9 | h9); (first | exact hg82 h9 | exact absurd h9 (by simpa using hg82)); (first | exact hc90 h9 | exact absurd h9 (by simpa using hc90)))]; show (insAt Q (dNext ds ((Q.length : Int) + 1)).toNat y, _) = _; rw [ha3], hS6, hs6⟩⟩ | exact g_round _ (by omega) ⟨j + 1, Q, ds, by omega, rfl, rfl, rfl, rfl, ⟨by rw [addUpTo_snoc hy, hst, addOne, if_pos (by first | exact .inl hg82 | exact .inr hc90 | exact .inl (by simpa using hg82) | exact .inr (by simpa using hc90))], hSj, hsj⟩⟩
      ·
       try simp only [decide_eq_true_eq, decide_eq_false_iff_not, Bool.not_eq_true', Bool.not_eq_false', Bool.not_eq_eq_eq_not, Bool.not_true, Bool.not_false, Bool.and_eq_true, Bool.or_eq_true, Bool.or_eq_false_iff, beq_iff_eq, beq_eq_false_iff_ne, ne_eq, Int.not_lt, Int.not_le, Decidable.not_not] at hg82
       refine g_step_no (j := 7) (t := 82) rfl rfl rfl rfl rfl rfl rfl ?_
       refine g_step_no (j := 7) (t := 82) rfl rfl rfl rfl rfl rfl rfl ?_
       refine g_step_no (j := 7) (t := 82) rfl rfl rfl rfl rfl rfl rfl ?_
       refine g_step_no (j := 7) (t := 82) rfl rfl rfl rfl rfl rfl rfl ?_
       refine g_step_no (j := 7) (t := 82) rfl rfl rfl rfl rfl rfl rfl ?_
       refine g_step_no (j := 7) (t := 82) rfl rfl rfl rfl rfl rfl rfl ?_
       refine g_step_no (j := 7) (t := 82) rfl rfl rfl rfl rfl rfl rfl ?_
       refine g_step rfl (s_val (v_pick_f rfl rfl) rfl rfl ?_)
       refine g_nil ?_
       refine g_next hK27 ?_
       first | refine g_keep [0, 5, 6, 7, 8, 9, 10, 11, 12, 13, 14, 90] [] [] (keep_cons rfl (keep_cons rfl (keep_cons rfl (keep_cons rfl (keep_cons rfl (keep_cons rfl (keep_cons rfl (keep_cons rfl (keep_cons rfl (keep_cons rfl (keep_cons rfl (keep_cons rfl keep_nil)))))))))))) lkeep_nil keep_nil rfl ?_ | refine g_keep [0, 5, 6, 7, 8, 9, 10, 11, 12, 13, 14, 90] [] [] rfl rfl rfl rfl ?_
       refine g_cond rfl (fun h => by cases h) (fun _ => ?_)
       refine g_skip ?_
       refine g_block_normal ?_
       refine g_next hK26 ?_
       refine g_region ?_
       refine g_step rfl (s_val (v_move rfl) rfl rfl ?_)
       refine g_step rfl (s_val (v_add rfl rfl (by omega)) rfl rfl ?_)
       refine g_step rfl (s_val (v_assign rfl) rfl rfl ?_)
       refine g_nil ?_
       first | refine g_keep [0, 5, 6, 7, 8, 9, 10, 11, 12, 13, 14] [] [] (keep_cons rfl (keep_cons rfl (keep_cons rfl (keep_cons rfl (keep_cons rfl (keep_cons rfl (keep_cons rfl (keep_cons rfl (keep_cons rfl (keep_cons rfl (keep_cons rfl keep_nil))))))))))) lkeep_nil keep_nil rfl ?_ | refine g_keep [0, 5, 6, 7, 8, 9, 10, 11, 12, 13, 14] [] [] rfl rfl rfl rfl ?_
       first | exact g_round _ (by omega) ⟨j + 1, insAt Q at' y, dRest ds ((Q.length : Int) + 1), by omega, rfl, rfl, rfl, rfl, ⟨by rw [addUpTo_snoc hy, hst, addOne, if_neg (by rintro (h9 | h9); (first | exact hg82 h9 | exact absurd h9 (by simpa using hg82)); (first | exact hc90 h9 | exact absurd h9 (by simpa using hc90)))]; show (insAt Q (dNext ds ((Q.length : Int) + 1)).toNat y, _) = _; rw [ha3], hS6, hs6⟩⟩ | exact g_round _ (by omega) ⟨j + 1, Q, ds, by omega, rfl, rfl, rfl, rfl, ⟨by rw [addUpTo_snoc hy, hst, addOne, if_pos (by first | exact .inl hg82 | exact .inr hc90 | exact .inl (by simpa using hg82) | exact .inr (by simpa using hc90))], hSj, hsj⟩⟩
     ·
      try simp only [decide_eq_true_eq, decide_eq_false_iff_not, Bool.not_eq_true', Bool.not_eq_false', Bool.not_eq_eq_eq_not, Bool.not_true, Bool.not_false, Bool.and_eq_true, Bool.or_eq_true, Bool.or_eq_false_iff, beq_iff_eq, beq_eq_false_iff_ne, ne_eq, Int.not_lt, Int.not_le, Decidable.not_not] at hc72
      obtain rfl : j = (setOf x).length := by omega
      have hA : rAdd s x = ⟨Q, (stay (setOf x) s.done), ds⟩ := by rw [rAdd, hst]
      refine g_exit ?_
      refine g_then_exit ?_
      refine g_then_exit ?_
      refine g_block_same ?_
      refine g_next hK22 ?_
      refine g_cut (fun env L B G => ∃ (s2 : Rg) (h2 h5 : AHeap) (ad2 : AV), env = [(0, .imm (l.map encI)), (5, .box p 0), (6, .box q 0), (7, .box e 0), (8, .imm (s2.left.map (.int .i64))), (9, ad2), (10, .int .i64 (k : Int)), (11, .int .i64 (rNext s x).2.1), (12, .bool (rNext s x).2.2)] ∧ L = [] ∧ B = [] ∧ s2 = rTurn (rAdd s x) ∧ Sep w0.heap.size G [h2, oneH e (.box (.agg [encI s2.ds])), h5] ∧ SV h5 1 ad2 (s2.done.map (.int .i64)) ∧ H.sub G ∧ RIs h2 p q (rNext s x).1 ∧ x.length ≤ 12) ?_ (fun env L B G hI => ?_)
      ·
       refine g_seq (fun K28 hK28 => ?_)
       refine g_region ?_
       refine g_step rfl (s_val (v_move rfl) rfl rfl ?_)
       refine g_step rfl (s_val (v_len ty41 rfl (by first | rfl | assumption) (by first | exact List.length_map .. | rfl)) rfl rfl ?_)
       refine g_step rfl (s_val (v_eql rfl rfl) rfl rfl ?_)
       refine g_nil ?_
       refine g_next hK28 ?_
       refine g_cond rfl (fun hc104 => ?_) (fun hc104 => ?_)
       ·
        try simp only [decide_eq_true_eq, decide_eq_false_iff_not, Bool.not_eq_true', Bool.not_eq_false', Bool.not_eq_eq_eq_not, Bool.not_true, Bool.not_false, Bool.and_eq_true, Bool.or_eq_true, Bool.or_eq_false_iff, beq_iff_eq, beq_eq_false_iff_ne, ne_eq, Int.not_lt, Int.not_le, Decidable.not_not] at hc104
        refine g_seq (fun K29 hK29 => ?_)
        refine g_region ?_
        refine g_step rfl (s_val (v_move rfl) rfl rfl ?_)
        refine g_step rfl (s_val (v_move rfl) rfl rfl ?_)
        refine g_step rfl (s_call rfl rfl rfl (shuffle_ok e ds (stay (setOf x) s.done) v5 _ ((hSj.1 (oneH e (.box (.agg [encI ds]))) (by simp)).1 _ _ (oneH_get _ _)) ((hD4.mono (hSj.1 h4 (by simp)).1).view) (by omega)) (fun b hb => .inr (by subst hb; exact hw_e)) ?_)
        rintro n7 v7 effs7 hn7 hdom7 ⟨e9, hO7, rfl⟩ hok7
        have hS7 := (hSj.put (l1 := [h2]) (l2 := [h4]) (r := e) (x := .box (.agg [encI (shufRest (stay (setOf x) s.done) ds)])) (.inr (by rw [oneH_get]; simp))).drop3
        have hs7 := sub_set' hsj (hw0 _ hw_e) (x := .box (.agg [encI (shufRest (stay (setOf x) s.done) ds)]))
        have hown7 := hO7.own (G := AHeap.set G e (.box (.agg [encI (shufRest (stay (setOf x) s.done) ds)]))) hn7 (set_dom hdom7 ((hSj.1 (oneH e (.box (.agg [encI ds]))) (by simp)).1 _ _ (oneH_get _ _)))
        rw [setAll_append]
        refine g_freeze 107 rfl hown7 ?_
        refine g_step rfl (s_val (v_assign rfl) rfl rfl ?_)
        refine g_nil ?_
        refine g_next hK29 ?_
        refine g_region ?_
        refine g_step rfl (s_val (v_assign rfl) rfl rfl ?_)
        refine g_nil ?_
        first | refine g_keep [0, 5, 6, 7, 8, 9, 10, 11, 12] [] [] (keep_cons rfl (keep_cons rfl (keep_cons rfl (keep_cons rfl (keep_cons rfl (keep_cons rfl (keep_cons rfl (keep_cons rfl (keep_cons rfl keep_nil))))))))) lkeep_nil keep_nil rfl ?_ | refine g_keep [0, 5, 6, 7, 8, 9, 10, 11, 12] [] [] rfl rfl rfl rfl ?_
        first | exact g_has ⟨⟨shuffled (stay (setOf x) s.done) ds, [], shufRest (stay (setOf x) s.done) ds⟩, h2, noH, .nil0, rfl, rfl, rfl, ⟨by rw [hA, rTurn, if_pos (List.eq_nil_of_length_eq_zero (by show Q.length = 0; omega))], hS7, .inl ⟨rfl, rfl⟩, hs7, hR2, hb3⟩⟩ | exact g_has ⟨⟨Q, (stay (setOf x) s.done), ds⟩, h2, h4, v5, rfl, rfl, rfl, ⟨by rw [hA, rTurn, if_neg (fun e9 => hc104 (by have e9 : Q = [] := e9; rw [e9]; rfl))], hSj, hD4, hsj, hR2, hb3⟩⟩
       ·
        try simp only [decide_eq_true_eq, decide_eq_false_iff_not, Bool.not_eq_true', Bool.not_eq_false', Bool.not_eq_eq_eq_not, Bool.not_true, Bool.not_false, Bool.and_eq_true, Bool.or_eq_true, Bool.or_eq_false_iff, beq_iff_eq, beq_eq_false_iff_ne, ne_eq, Int.not_lt, Int.not_le, Decidable.not_not] at hc104
        refine g_skip ?_
        first | refine g_keep [0, 5, 6, 7, 8, 9, 10, 11, 12] [] [] (keep_cons rfl (keep_cons rfl (keep_cons rfl (keep_cons rfl (keep_cons rfl (keep_cons rfl (keep_cons rfl (keep_cons rfl (keep_cons rfl keep_nil))))))))) lkeep_nil keep_nil rfl ?_ | refine g_keep [0, 5, 6, 7, 8, 9, 10, 11, 12] [] [] rfl rfl rfl rfl ?_
        first | exact g_has ⟨⟨shuffled (stay (setOf x) s.done) ds, [], shufRest (stay (setOf x) s.done) ds⟩, h2, noH, .nil0, rfl, rfl, rfl, ⟨by rw [hA, rTurn, if_pos (List.eq_nil_of_length_eq_zero (by show Q.length = 0; omega))], hS7, .inl ⟨rfl, rfl⟩, hs7, hR2, hb3⟩⟩ | exact g_has ⟨⟨Q, (stay (setOf x) s.done), ds⟩, h2, h4, v5, rfl, rfl, rfl, ⟨by rw [hA, rTurn, if_neg (fun e9 => hc104 (by have e9 : Q = [] := e9; rw [e9]; rfl))], hSj, hD4, hsj, hR2, hb3⟩⟩
      ·
       obtain ⟨s2, h2, h5, ad2, rfl, rfl, rfl, hs2e, hS5, hD5, hs5, hR2, hx12⟩ := hI
       have hN : (rNext s x) = rOut s2 := by rw [hs2e]; rfl
       have hsz3 := rSize s x
       have hsz2 : s2.done.length ≤ s.done.length := by rw [hs2e]; exact (rTurn_len s x).2
       refine g_cut (fun env L B G => ∃ (s3 : Rg) (h2 h5 : AHeap) (ad2 : AV), env = [(0, .imm (l.map encI)), (5, .box p 0), (6, .box q 0), (7, .box e 0), (8, .imm (s3.left.map (.int .i64))), (9, ad2), (10, .int .i64 (k : Int))] ∧ L = [] ∧ B = [] ∧ s3 = (rNext s x).1 ∧ Sep w0.heap.size G [h2, oneH e (.box (.agg [encI s3.ds])), h5] ∧ SV h5 1 ad2 (s3.done.map (.int .i64)) ∧ H.sub G ∧ RIs h2 p q s3 ∧ x.length ≤ 12) ?_ (fun env L B G hI => ?_)
       ·
        refine g_seq (fun K30 hK30 => ?_)
        refine g_region ?_
        refine g_step rfl (s_val (v_move rfl) rfl rfl ?_)
        refine g_step rfl (s_val (v_len ty41 rfl (by first | rfl | assumption) (by first | exact List.length_map .. | rfl)) rfl rfl ?_)
        refine g_step rfl (s_val (v_eql rfl rfl) rfl rfl ?_)
        refine g_nil ?_
        refine g_next hK30 ?_
        refine g_cond rfl (fun hc110 => ?_) (fun hc110 => ?_)
        ·
         try simp only [decide_eq_true_eq, decide_eq_false_iff_not, Bool.not_eq_true', Bool.not_eq_false', Bool.not_eq_eq_eq_not, Bool.not_true, Bool.not_false, Bool.and_eq_true, Bool.or_eq_true, Bool.or_eq_false_iff, beq_iff_eq, beq_eq_false_iff_ne, ne_eq, Int.not_lt, Int.not_le, Decidable.not_not] at hc110
         have hl0 : s2.left = [] := List.eq_nil_of_length_eq_zero (by omega)
         have hN2 := hN.trans (rOut_nil hl0)
         have hv1 : (rNext s x).2.1 = 0 := by rw [hN2]
         have hv2 : (rNext s x).2.2 = false := by rw [hN2]
         refine g_seq (fun K31 hK31 => ?_)
         refine g_region ?_
         refine g_step rfl (s_val (v_move rfl) rfl rfl ?_)
         refine g_step rfl (s_val (v_move rfl) rfl rfl ?_)
         refine g_split 112 rfl (fun hg112 => ?_) (fun hg112 => ?_)
         · exfalso; (try simp only [decide_eq_true_eq, decide_eq_false_iff_not, Bool.not_eq_true', Bool.not_eq_false', Bool.not_eq_eq_eq_not, Bool.not_true, Bool.not_false, Bool.and_eq_true, Bool.or_eq_true, Bool.or_eq_false_iff, beq_iff_eq, beq_eq_false_iff_ne, ne_eq, Int.not_lt, Int.not_le, Decidable.not_not] at hg112); first | exact absurd (hg112.symm.trans hv2) (by simp) | (rw [hv2] at hg112; simp at hg112)
         ·
          try simp only [decide_eq_true_eq, decide_eq_false_iff_not, Bool.not_eq_true', Bool.not_eq_false', Bool.not_eq_eq_eq_not, Bool.not_true, Bool.not_false, Bool.and_eq_true, Bool.or_eq_true, Bool.or_eq_false_iff, beq_iff_eq, beq_eq_false_iff_ne, ne_eq, Int.not_lt, Int.not_le, Decidable.not_not] at hg112
          refine g_step_yes (j := 1) (t := 112) rfl rfl rfl rfl (s_val (v_move rfl) rfl rfl ?_)
          refine g_step_yes (j := 1) (t := 112) rfl rfl rfl rfl (s_val (v_neq rfl rfl) rfl rfl ?_)
          refine g_step rfl (s_val (v_pick_f rfl rfl) rfl rfl ?_)
          refine g_nil ?_
          refine g_next hK31 ?_
          refine g_cond rfl (fun hc115 => ?_) (fun hc115 => ?_)
          · exfalso; (try simp only [decide_eq_true_eq, decide_eq_false_iff_not, Bool.not_eq_true', Bool.not_eq_false', Bool.not_eq_eq_eq_not, Bool.not_true, Bool.not_false, Bool.and_eq_true, Bool.or_eq_true, Bool.or_eq_false_iff, beq_iff_eq, beq_eq_false_iff_ne, ne_eq, Int.not_lt, Int.not_le, Decidable.not_not] at hc115); exact hc115 hv1
          ·
           try simp only [decide_eq_true_eq, decide_eq_false_iff_not, Bool.not_eq_true', Bool.not_eq_false', Bool.not_eq_eq_eq_not, Bool.not_true, Bool.not_false, Bool.and_eq_true, Bool.or_eq_true, Bool.or_eq_false_iff, beq_iff_eq, beq_eq_false_iff_ne, ne_eq, Int.not_lt, Int.not_le, Decidable.not_not] at hc115
           refine g_skip ?_
           first | refine g_keep [0, 5, 6, 7, 8, 9, 10] [] [] (keep_cons rfl (keep_cons rfl (keep_cons rfl (keep_cons rfl (keep_cons rfl (keep_cons rfl (keep_cons rfl keep_nil))))))) lkeep_nil keep_nil rfl ?_ | refine g_keep [0, 5, 6, 7, 8, 9, 10] [] [] rfl rfl rfl rfl ?_
           first | exact g_has ⟨s2, h2, h5, ad2, rfl, rfl, rfl, ⟨by rw [hN2], hS5, hD5, hs5, by rw [hN2] at hR2; exact hR2, hx12⟩⟩ | exact g_has ⟨⟨t, s2.done ++ [y], s2.ds⟩, h2, oneH r' (.row 1 ((s2.done ++ [y]).map (.int .i64))), _, rfl, rfl, rfl, ⟨by rw [hN2], hS6, .inr ⟨r', rfl, oneH_get _ _⟩, hs6, by rw [hN2] at hR2; exact hR2, hx12⟩⟩
        ·
         try simp only [decide_eq_true_eq, decide_eq_false_iff_not, Bool.not_eq_true', Bool.not_eq_false', Bool.not_eq_eq_eq_not, Bool.not_true, Bool.not_false, Bool.and_eq_true, Bool.or_eq_true, Bool.or_eq_false_iff, beq_iff_eq, beq_eq_false_iff_ne, ne_eq, Int.not_lt, Int.not_le, Decidable.not_not] at hc110
         obtain ⟨y, t, hyt⟩ : ∃ y t, s2.left = y :: t := by cases hh9 : s2.left with | nil => exact absurd (by rw [hh9]; rfl) hc110 | cons y t => exact ⟨y, t, rfl⟩
         have hN2 := hN.trans (rOut_cons hyt)
         have hv1 : (rNext s x).2.1 = y := by rw [hN2]
         have hv2 : (rNext s x).2.2 = true := by rw [hN2]
         have hy0 : (s2.left.map (AV.int .i64))[0]? = some (.int .i64 y) := by rw [hyt]; rfl
         have hlen1 : 1 ≤ s2.left.length := by rw [hyt]; simp
         refine g_seq (fun K32 hK32 => ?_)
         refine g_seq (fun K33 hK33 => ?_)
         refine g_region ?_
         refine g_step rfl (s_val (v_move rfl) rfl rfl ?_)
         refine g_step rfl (s_val (v_not rfl) rfl rfl ?_)
         refine g_step rfl (s_val (v_move rfl) rfl rfl ?_)
         refine g_split 118 rfl (fun hg118 => ?_) (fun hg118 => ?_)
         · exfalso; (try simp only [decide_eq_true_eq, decide_eq_false_iff_not, Bool.not_eq_true', Bool.not_eq_false', Bool.not_eq_eq_eq_not, Bool.not_true, Bool.not_false, Bool.and_eq_true, Bool.or_eq_true, Bool.or_eq_false_iff, beq_iff_eq, beq_eq_false_iff_ne, ne_eq, Int.not_lt, Int.not_le, Decidable.not_not] at hg118); first | exact absurd (hg118.symm.trans hv2) (by simp) | (rw [hv2] at hg118; simp at hg118)
         ·
          try simp only [decide_eq_true_eq, decide_eq_false_iff_not, Bool.not_eq_true', Bool.not_eq_false', Bool.not_eq_eq_eq_not, Bool.not_true, Bool.not_false, Bool.and_eq_true, Bool.or_eq_true, Bool.or_eq_false_iff, beq_iff_eq, beq_eq_false_iff_ne, ne_eq, Int.not_lt, Int.not_le, Decidable.not_not] at hg118
          refine g_step_yes (j := 2) (t := 118) rfl rfl rfl rfl (s_val (v_move rfl) rfl rfl ?_)
          refine g_step_yes (j := 2) (t := 118) rfl rfl rfl rfl (s_val (v_move rfl) rfl rfl ?_)
          refine g_step_yes (j := 2) (t := 118) rfl rfl rfl rfl (s_val (v_indexAddr ty41 ty3 rfl rfl rfl rfl hy0 rfl) rfl rfl ?_)
          refine g_step_yes (j := 2) (t := 118) rfl rfl rfl rfl (s_val (by first | exact v_load ty3 rfl rfl rfl hy0 rfl | exact v_load_box ty3 rfl rfl (by assumption) rfl) rfl rfl ?_)
          refine g_step_yes (j := 2) (t := 118) rfl rfl rfl rfl (s_val (v_neq rfl rfl) rfl rfl ?_)
          refine g_step rfl (s_val (v_pick_f rfl rfl) rfl rfl ?_)
          refine g_nil ?_
          refine g_next hK33 ?_
          refine g_cond rfl (fun hc124 => ?_) (fun hc124 => ?_)
          · exfalso; (try simp only [decide_eq_true_eq, decide_eq_false_iff_not, Bool.not_eq_true', Bool.not_eq_false', Bool.not_eq_eq_eq_not, Bool.not_true, Bool.not_false, Bool.and_eq_true, Bool.or_eq_true, Bool.or_eq_false_iff, beq_iff_eq, beq_eq_false_iff_ne, ne_eq, Int.not_lt, Int.not_le, Decidable.not_not] at hc124); exact hc124 hv1
          ·
           try simp only [decide_eq_true_eq, decide_eq_false_iff_not, Bool.not_eq_true', Bool.not_eq_false', Bool.not_eq_eq_eq_not, Bool.not_true, Bool.not_false, Bool.and_eq_true, Bool.or_eq_true, Bool.or_eq_false_iff, beq_iff_eq, beq_eq_false_iff_ne, ne_eq, Int.not_lt, Int.not_le, Decidable.not_not] at hc124
           refine g_skip ?_
           refine g_next hK32 ?_
           refine g_seq (fun K34 hK34 => ?_)
           refine g_region ?_
           refine g_step rfl (s_val (v_move rfl) rfl rfl ?_)
           refine g_step rfl (s_val (v_move rfl) rfl rfl ?_)
           refine g_step rfl (s_val (v_indexAddr ty41 ty3 rfl rfl rfl rfl hy0 rfl) rfl rfl ?_)
           refine g_step rfl (s_val (by first | exact v_load ty3 rfl rfl rfl hy0 rfl | exact v_load_box ty3 rfl rfl (by assumption) rfl) rfl rfl ?_)
           refine g_step rfl (s_lit ty41 ty3 rfl rfl rfl rfl rfl rfl rfl ?_)
           refine g_step rfl (s_appendV (l := (s2.done.map (AV.int .i64))) (m := ([y].map (AV.int .i64))) ty41 ty3 rfl rfl (hS5.sv (l1 := [h2, oneH e (.box (.agg [encI s2.ds]))]) (l2 := []) hD5) rfl rfl (by refine Even.map _ ?_ _; intro _; rfl) (by intro x hx; obtain ⟨_, _, rfl⟩ := List.mem_map.1 hx; rfl) rfl (by simp) (by simp; omega) (by simp; omega) ?_)
           intro r' hr'
           rw [← List.map_append]
           have hS6 := hS5.put (l1 := [h2, oneH e (.box (.agg [encI s2.ds]))]) (l2 := []) (x := .row 1 ((s2.done ++ [y]).map (.int .i64))) (sv_here hD5 hr')
           have hs6 := sub_set' hs5 (hw0 _ (by rcases sv_here hD5 hr' with g | g; exact g.2; exact (hS5.1 h5 (by simp)).2 _ g)) (x := .row 1 ((s2.done ++ [y]).map (.int .i64)))
           refine g_step rfl (s_val (v_assign rfl) rfl rfl ?_)
           refine g_nil ?_
           refine g_next hK34 ?_
           first | refine g_keep [0, 5, 6, 7, 8, 9, 10] [] [] (keep_cons rfl (keep_cons rfl (keep_cons rfl (keep_cons rfl (keep_cons rfl (keep_cons rfl (keep_cons rfl keep_nil))))))) lkeep_nil keep_nil rfl ?_ | refine g_keep [0, 5, 6, 7, 8, 9, 10] [] [] rfl rfl rfl rfl ?_
           refine g_region ?_
           refine g_step rfl (s_val (v_move rfl) rfl rfl ?_)
           refine g_step rfl (s_val (v_slice_imm (lo := 1) (hi := s2.left.length) (m := (t.map (.int .i64))) ty41 ty3 rfl rfl rfl (by first | rfl | (exact (rfl : (0 : Int) = ((0 : Nat) : Int))) | omega | (simp <;> omega)) (by simp) (by omega) (by simp) (by refine Even.map _ ?_ _; intro _; rfl) (by rw [List.take_of_length_le (by simp), hyt]; rfl)) rfl rfl ?_)
           refine g_step rfl (s_val (v_assign rfl) rfl rfl ?_)
           refine g_nil ?_
           first | refine g_keep [0, 5, 6, 7, 8, 9, 10] [] [] (keep_cons rfl (keep_cons rfl (keep_cons rfl (keep_cons rfl (keep_cons rfl (keep_cons rfl (keep_cons rfl keep_nil))))))) lkeep_nil keep_nil rfl ?_ | refine g_keep [0, 5, 6, 7, 8, 9, 10] [] [] rfl rfl rfl rfl ?_
           first | exact g_has ⟨s2, h2, h5, ad2, rfl, rfl, rfl, ⟨by rw [hN2], hS5, hD5, hs5, by rw [hN2] at hR2; exact hR2, hx12⟩⟩ | exact g_has ⟨⟨t, s2.done ++ [y], s2.ds⟩, h2, oneH r' (.row 1 ((s2.done ++ [y]).map (.int .i64))), _, rfl, rfl, rfl, ⟨by rw [hN2], hS6, .inr ⟨r', rfl, oneH_get _ _⟩, hs6, by rw [hN2] at hR2; exact hR2, hx12⟩⟩
       ·
        obtain ⟨s3, h2, h5, ad2, rfl, rfl, rfl, hs3e, hS, hD5, hs5, hR2, hx12⟩ := hI
        have hsz3 := rSize s x
        rw [← hs3e] at hsz3
        obtain ⟨al9, ad9, hRA⟩ := id hR2
        have hq9 := (hS.1 h2 (by simp)).1 _ _ hRA.qq
        refine g_seq (fun K35 hK35 => ?_)
        refine g_region ?_
        refine g_step rfl (s_val (v_move rfl) rfl rfl ?_)
        refine g_step rfl (s_callp rfl rfl rfl (rLeft_ok h2 p q s3 _ hR2 (hS.1 h2 (by simp)).1 (by omega)) ?_)
        rintro _ rfl
        refine g_step rfl (s_val (v_move rfl) rfl rfl ?_)
        refine g_step rfl (s_callp rfl rfl rfl (same20_ok s3.left s3.left _ _ _ rfl rfl (by omega) (by omega)) ?_)
        rintro _ rfl
        rw [decide_eq_true rfl]
        refine g_step rfl (s_val (v_not rfl) rfl rfl ?_)
        refine g_step rfl (s_val (v_move rfl) rfl rfl ?_)
        refine g_split 138 rfl (fun hg138 => ?_) (fun hg138 => ?_)
        · exfalso; (try simp only [decide_eq_true_eq, decide_eq_false_iff_not, Bool.not_eq_true', Bool.not_eq_false', Bool.not_eq_eq_eq_not, Bool.not_true, Bool.not_false, Bool.and_eq_true, Bool.or_eq_true, Bool.or_eq_false_iff, beq_iff_eq, beq_eq_false_iff_ne, ne_eq, Int.not_lt, Int.not_le, Decidable.not_not] at hg138); first | (simp at hg138; done) | exact hg138 rfl
        ·
         try simp only [decide_eq_true_eq, decide_eq_false_iff_not, Bool.not_eq_true', Bool.not_eq_false', Bool.not_eq_eq_eq_not, Bool.not_true, Bool.not_false, Bool.and_eq_true, Bool.or_eq_true, Bool.or_eq_false_iff, beq_iff_eq, beq_eq_false_iff_ne, ne_eq, Int.not_lt, Int.not_le, Decidable.not_not] at hg138
         refine g_step_yes (j := 5) (t := 138) rfl rfl rfl rfl (s_val (v_move rfl) rfl rfl ?_)
         refine g_step_yes (j := 5) (t := 138) rfl rfl rfl rfl (s_callp rfl rfl rfl (rDone_ok h2 p q s3 _ hR2 (hS.1 h2 (by simp)).1 (by omega)) ?_)
         rintro _ rfl
         refine g_step_yes (j := 5) (t := 138) rfl rfl rfl rfl (s_val (v_move rfl) rfl rfl ?_)
         refine g_step_yes (j := 5) (t := 138) rfl rfl rfl rfl (s_callp rfl rfl rfl (same20_ok s3.done s3.done _ _ _ rfl ((hD5.mono (hS.1 h5 (by simp)).1).view) (by omega) (by omega)) ?_)
         rintro _ rfl
         rw [decide_eq_true rfl]
         refine g_step_yes (j := 5) (t := 138) rfl rfl rfl rfl (s_val (v_not rfl) rfl rfl ?_)
         refine g_step rfl (s_val (v_pick_f rfl rfl) rfl rfl ?_)
         refine g_step rfl (s_val (v_move rfl) rfl rfl ?_)
         refine g_split 145 rfl (fun hg145 => ?_) (fun hg145 => ?_)
         · exfalso; (try simp only [decide_eq_true_eq, decide_eq_false_iff_not, Bool.not_eq_true', Bool.not_eq_false', Bool.not_eq_eq_eq_not, Bool.not_true, Bool.not_false, Bool.and_eq_true, Bool.or_eq_true, Bool.or_eq_false_iff, beq_iff_eq, beq_eq_false_iff_ne, ne_eq, Int.not_lt, Int.not_le, Decidable.not_not] at hg145); first | (simp at hg145; done) | exact hg145 rfl
         ·
          try simp only [decide_eq_true_eq, decide_eq_false_iff_not, Bool.not_eq_true', Bool.not_eq_false', Bool.not_eq_eq_eq_not, Bool.not_true, Bool.not_false, Bool.and_eq_true, Bool.or_eq_true, Bool.or_eq_false_iff, beq_iff_eq, beq_eq_false_iff_ne, ne_eq, Int.not_lt, Int.not_le, Decidable.not_not] at hg145
          refine g_step_yes (j := 12) (t := 145) rfl rfl rfl rfl (s_val (v_move rfl) rfl rfl ?_)
          refine g_step_yes (j := 12) (t := 145) rfl rfl rfl rfl (s_callp rfl rfl rfl (left_ok q s3.ds _ hq9) ?_)
          rintro _ rfl
          refine g_step_yes (j := 12) (t := 145) rfl rfl rfl rfl (s_val (v_move rfl) rfl rfl ?_)
          refine g_step_yes (j := 12) (t := 145) rfl rfl rfl rfl (s_callp rfl rfl rfl (left_ok e s3.ds _ ((hS.1 (oneH e (.box (.agg [encI s3.ds]))) (by simp)).1 _ _ (oneH_get _ _))) ?_)
          rintro _ rfl
          refine g_step_yes (j := 12) (t := 145) rfl rfl rfl rfl (s_val (v_neq rfl rfl) rfl rfl ?_)
          refine g_step rfl (s_val (v_pick_f rfl rfl) rfl rfl ?_)
          refine g_nil ?_
          refine g_next hK35 ?_
          first | refine g_keep [0, 5, 6, 7, 8, 9, 10, 151] [] [] (keep_cons rfl (keep_cons rfl (keep_cons rfl (keep_cons rfl (keep_cons rfl (keep_cons rfl (keep_cons rfl (keep_cons rfl keep_nil)))))))) lkeep_nil keep_nil rfl ?_ | refine g_keep [0, 5, 6, 7, 8, 9, 10, 151] [] [] rfl rfl rfl rfl ?_
          refine g_cond rfl (fun hc151 => ?_) (fun hc151 => ?_)
          · exfalso; (try simp only [decide_eq_true_eq, decide_eq_false_iff_not, Bool.not_eq_true', Bool.not_eq_false', Bool.not_eq_eq_eq_not, Bool.not_true, Bool.not_false, Bool.and_eq_true, Bool.or_eq_true, Bool.or_eq_false_iff, beq_iff_eq, beq_eq_false_iff_ne, ne_eq, Int.not_lt, Int.not_le, Decidable.not_not] at hc151); first | exact hc151 rfl | (simp at hc151; done)
          ·
           try simp only [decide_eq_true_eq, decide_eq_false_iff_not, Bool.not_eq_true', Bool.not_eq_false', Bool.not_eq_eq_eq_not, Bool.not_true, Bool.not_false, Bool.and_eq_true, Bool.or_eq_true, Bool.or_eq_false_iff, beq_iff_eq, beq_eq_false_iff_ne, ne_eq, Int.not_lt, Int.not_le, Decidable.not_not] at hc151
           refine g_skip ?_
           refine g_block_normal ?_
           refine g_next hK14 ?_
           refine g_region ?_
           refine g_step rfl (s_val (v_move rfl) rfl rfl ?_)
           refine g_step rfl (s_val (v_add rfl rfl (by omega)) rfl rfl ?_)
           refine g_step rfl (s_val (v_assign rfl) rfl rfl ?_)
           refine g_nil ?_
           first | refine g_keep [0, 5, 6, 7, 8, 9, 10] [] [] (keep_cons rfl (keep_cons rfl (keep_cons rfl (keep_cons rfl (keep_cons rfl (keep_cons rfl (keep_cons rfl keep_nil))))))) lkeep_nil keep_nil rfl ?_ | refine g_keep [0, 5, 6, 7, 8, 9, 10] [] [] rfl rfl rfl rfl ?_
           exact g_round _ (by omega) ⟨k + 1, s3, h2, h5, ad2, by omega, rfl, rfl, rfl, rfl, ⟨hS, hR2, hD5, hs5, by omega⟩⟩
   ·
    try simp only [decide_eq_true_eq, decide_eq_false_iff_not, Bool.not_eq_true', Bool.not_eq_false', Bool.not_eq_eq_eq_not, Bool.not_true, Bool.not_false, Bool.and_eq_true, Bool.or_eq_true, Bool.or_eq_false_iff, beq_iff_eq, beq_eq_false_iff_ne, ne_eq, Int.not_lt, Int.not_le, Decidable.not_not] at hc32
    obtain rfl : k = l.length := by omega
    refine g_exit ?_
    refine g_then_exit ?_
    refine g_then_exit ?_
    refine g_block_same ?_
    refine g_next hK10 ?_
    refine g_seq (fun K36 hK36 => ?_)
    refine g_region ?_
    refine g_step rfl (s_callp rfl rfl rfl (awake20_ok _) ?_)
    rintro _ rfl
    refine g_step rfl (s_val (v_assign rfl) rfl rfl ?_)
    refine g_nil ?_
    refine g_next hK36 ?_
    refine g_ret ?_
    refine g_end1 (.inl rfl) Try.results6 (.tmp rfl) [] (ASub.refl _) (by first | exact hs_H | exact AHeap.sub_refl _) (fun p hp => by cases hp) ⟨rfl, ?_⟩
    rfl

end Go.Proofs.Ytobigfbgaiglkaa

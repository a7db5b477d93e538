import Derived.Test.YtobigfbgaiglkaaBase2
import Derived.Test.YtobigfbgaiglkaaLaw08
import Derived.Test.YtobigfbgaiglkaaPBase3
set_option maxHeartbeats 8000000
set_option linter.unusedSimpArgs false
set_option linter.unusedVariables false
set_option maxRecDepth 100000
namespace Go.Proofs.Ytobigfbgaiglkaa
open Go Go.Proofs.Ytobigfbgaiglkaa.AM
theorem gone26_ok (a b : List Rc) (G : AHeap) (ha : a.length ≤ 100000) (hb : b.length ≤ 100000) (hsb : ∀ x ∈ b, Small x.bag) : PCalls Try.prog 41 [encRs a, encRs b] G (fun v => v = .bool (goneAny a b)) := by
 refine LCalls.intro 26 fi41 rfl Try.ntmps41 rfl (fun _ h => h.elim) (fun H hH w0 hw0 => ?_)
 refine g_seq (fun K0 hK0 => ?_)
 refine g_region ?_
 refine g_step rfl (s_val (v_assign rfl) rfl rfl ?_)
 refine g_nil ?_
 refine g_next hK0 ?_
 refine g_seq (fun K1 hK1 => ?_)
 refine g_seq (fun K2 hK2 => ?_)
 refine g_region ?_
 refine g_step rfl (s_val (v_assign rfl) rfl rfl ?_)
 refine g_nil ?_
 refine g_next hK2 ?_
 refine g_block ?_
 first | refine g_keep [0, 1, 5] [] [] (keep_cons rfl (keep_cons rfl (keep_cons rfl keep_nil))) lkeep_nil keep_nil rfl ?_ | refine g_keep [0, 1, 5] [] [] rfl rfl rfl rfl ?_
 refine g_loop (fun n env L B G => ∃ (k : Nat) , k ≤ a.length ∧ n = a.length - k ∧ env = [(0, encRs a), (1, encRs b), (5, .int .i64 (k : Int))] ∧ L = [] ∧ B = [] ∧ H = G ∧ (a.take k).any (isGone b) = false) (a.length) ⟨0, Nat.zero_le _, rfl, rfl, rfl, rfl, rfl, rfl⟩ (fun n env L B G hI => ?_)
 obtain ⟨k, hk, rfl, rfl, rfl, rfl, rfl, hno⟩ := hI
 refine g_seq (fun K3 hK3 => ?_)
 refine g_seq (fun K4 hK4 => ?_)
 refine g_region ?_
 refine g_step rfl (s_val (v_move rfl) rfl rfl ?_)
 refine g_step rfl (s_val (v_move rfl) rfl rfl ?_)
 refine g_step rfl (s_val (v_len ty64 rfl (by first | rfl | assumption) (by first | exact List.length_map .. | rfl)) rfl rfl ?_)
 refine g_step rfl (s_val (v_lss rfl rfl) rfl rfl ?_)
 refine g_nil ?_
 refine g_next hK4 ?_
 refine g_cond rfl (fun hc11 => ?_) (fun hc11 => ?_)
 ·
  try simp only [decide_eq_true_eq, decide_eq_false_iff_not, Bool.not_eq_true', Bool.not_eq_false', Bool.not_eq_eq_eq_not, Bool.not_true, Bool.not_false, Bool.and_eq_true, Bool.or_eq_true, Bool.or_eq_false_iff, beq_iff_eq, beq_eq_false_iff_ne, ne_eq, Int.not_lt, Int.not_le, Decidable.not_not] at hc11
  obtain ⟨x, hx⟩ := get_some (l := a) (k := k) (by omega)
  refine g_skip ?_
  refine g_next hK3 ?_
  refine g_seq (fun K5 hK5 => ?_)
  refine g_block ?_
  refine g_seq (fun K6 hK6 => ?_)
  refine g_region ?_
  refine g_step rfl (s_val (v_move rfl) rfl rfl ?_)
  refine g_step rfl (s_val (v_move rfl) rfl rfl ?_)
  refine g_step rfl (s_val (v_move rfl) rfl rfl ?_)
  refine g_step rfl (s_val (v_indexAddr ty64 ty135 rfl rfl (by first | rfl | assumption) (by first | rfl | exact (rfl : (0 : Int) = ((0 : Nat) : Int)) | exact (Int.toNat_of_nonneg (by omega)).symm) (by first | assumption | exact map_get (by assumption) | rfl) rfl) rfl rfl ?_)
  refine g_step rfl (s_val (by first | exact v_fieldAddr ty135 fo135_0 ty3 rfl | exact v_fieldAddr_box ty135 fo135_0 ty3 rfl) rfl rfl ?_)
  refine g_step rfl (s_val (by first | exact v_load ty3 rfl rfl (by first | rfl | assumption) (by first | assumption | exact map_get (by assumption) | rfl) rfl | exact v_load_box ty3 rfl rfl (by assumption) rfl) rfl rfl ?_)
  refine g_step rfl (s_callp rfl rfl rfl (find_ok b x.id _ _ rfl (by omega) hsb) ?_)
  rintro _ rfl
  refine g_step rfl (s_val (v_move rfl) rfl rfl ?_)
  refine g_step rfl (s_val (v_extract rfl rfl) rfl rfl ?_)
  refine g_step rfl (s_val (v_extract rfl rfl) rfl rfl ?_)
  refine g_step rfl (s_alloc (av := (.agg [(.int .i64 0), (.int .i64 0), (.int .i64 0), (.int .i64 0), (.int .i64 0), (.bool false), .nil0])) ty135 rfl rfl rfl rfl ?_)
  refine g_step rfl (s_store_all ty135 rfl rfl rfl rfl rfl rfl ?_)
  refine g_step rfl (s_val (v_assign rfl) rfl rfl ?_)
  refine g_nil ?_
  refine g_next hK6 ?_
  refine g_seq (fun K7 hK7 => ?_)
  refine g_region ?_
  refine g_step rfl (s_val (v_move rfl) rfl rfl ?_)
  refine g_step rfl (s_val (v_not rfl) rfl rfl ?_)
  refine g_nil ?_
  refine g_next hK7 ?_
  refine g_cond rfl (fun hc25 => ?_) (fun hc25 => ?_)
  ·
   try simp only [decide_eq_true_eq, decide_eq_false_iff_not, Bool.not_eq_true', Bool.not_eq_false', Bool.not_eq_eq_eq_not, Bool.not_true, Bool.not_false, Bool.and_eq_true, Bool.or_eq_true, Bool.or_eq_false_iff, beq_iff_eq, beq_eq_false_iff_ne, ne_eq, Int.not_lt, Int.not_le, Decidable.not_not] at hc25
   refine g_seq (fun K8 hK8 => ?_)
   refine g_region ?_
   refine g_step rfl (s_val (v_assign rfl) rfl rfl ?_)
   refine g_nil ?_
   refine g_next hK8 ?_
   refine g_ret ?_
   refine g_block_ret ?_
   refine g_then_ret ?_
   refine g_then_ret ?_
   refine g_block_ret ?_
   refine g_then_ret ?_
   refine g_end1 (.inl rfl) Try.results41 (.tmp rfl) [] (ASub.refl _) (AHeap.sub_refl _) (fun p hp => by cases hp) ⟨rfl, ?_⟩
   first | (rw [show goneAny a b = true from List.any_eq_true.2 ⟨x, mem_get hx, by rw [isGone_rfind, hc25]; rfl⟩]; rfl; done) | (rw [show goneAny a b = true from List.any_eq_true.2 ⟨x, mem_get hx, by rw [isGone_rfind, hc25]; rfl⟩]; rfl; rfl)
  ·
   try simp only [decide_eq_true_eq, decide_eq_false_iff_not, Bool.not_eq_true', Bool.not_eq_false', Bool.not_eq_eq_eq_not, Bool.not_true, Bool.not_false, Bool.and_eq_true, Bool.or_eq_true, Bool.or_eq_false_iff, beq_iff_eq, beq_eq_false_iff_ne, ne_eq, Int.not_lt, Int.not_le, Decidable.not_not] at hc25
   refine g_skip ?_
   refine g_block_normal ?_
   refine g_next hK5 ?_
   refine g_region ?_
   refine g_step rfl (s_val (v_move rfl) rfl rfl ?_)
   refine g_step rfl (s_val (v_add rfl rfl (by omega)) rfl rfl ?_)
   refine g_step rfl (s_val (v_assign rfl) rfl rfl ?_)
   refine g_nil ?_
   first | refine g_keep [0, 1, 5] [] [] (keep_cons rfl (keep_cons rfl (keep_cons rfl keep_nil))) lkeep_nil keep_nil rfl ?_ | refine g_keep [0, 1, 5] [] [] rfl rfl rfl rfl ?_
   exact g_round _ (by omega) ⟨k + 1, by omega, rfl, rfl, rfl, rfl, rfl, by rw [List.take_add_one, hx, List.any_append, hno]; simpa [isGone_rfind] using hc25⟩
 ·
  try simp only [decide_eq_true_eq, decide_eq_false_iff_not, Bool.not_eq_true', Bool.not_eq_false', Bool.not_eq_eq_eq_not, Bool.not_true, Bool.not_false, Bool.and_eq_true, Bool.or_eq_true, Bool.or_eq_false_iff, beq_iff_eq, beq_eq_false_iff_ne, ne_eq, Int.not_lt, Int.not_le, Decidable.not_not] at hc11
  obtain rfl : k = a.length := by omega
  rw [List.take_length] at hno
  refine g_exit ?_
  refine g_then_exit ?_
  refine g_then_exit ?_
  refine g_block_same ?_
  refine g_next hK1 ?_
  refine g_seq (fun K9 hK9 => ?_)
  refine g_region ?_
  refine g_step rfl (s_val (v_assign rfl) rfl rfl ?_)
  refine g_nil ?_
  refine g_next hK9 ?_
  refine g_ret ?_
  refine g_end1 (.inl rfl) Try.results41 (.tmp rfl) [] (ASub.refl _) (AHeap.sub_refl _) (fun p hp => by cases hp) ⟨rfl, ?_⟩
  first | (rw [show goneAny a b = false from hno]; rfl; done) | (rw [show goneAny a b = false from hno]; rfl; rfl)

theorem awake26_ok (G : AHeap) : PCalls Try.prog 35 [] G (fun r => r = .bool true) := by
 refine LCalls.intro 70 fi35 rfl Try.ntmps35 rfl (fun _ h => h.elim) (fun H hH w0 hw0 => ?_)
 refine g_seq (fun K0 hK0 => ?_)
 refine g_region ?_
 refine g_step rfl (s_val (v_assign rfl) rfl rfl ?_)
 refine g_nil ?_
 refine g_next hK0 ?_
 refine g_seq (fun K1 hK1 => ?_)
 refine g_region ?_
 refine g_step rfl (s_val (v_sub (b := (encSp ⟨1, 3⟩)) (v_build (vs := [(0, _), (1, _)]) (zs := [(.int .i64 0), (.int .i64 0)]) (cells := [_, _]) ty107 pl107 rfl rfl rfl) (ASub.of_wk rfl)) rfl rfl ?_)
 refine g_step rfl (s_alloc (av := (.agg [(.int .i64 0), (.int .i64 0)])) ty107 rfl rfl rfl rfl ?_)
 refine g_step rfl (s_store_all ty107 rfl rfl rfl rfl rfl rfl ?_)
 refine g_nil ?_
 refine g_next hK1 ?_
 refine g_seq (fun K2 hK2 => ?_)
 refine g_region ?_
 refine g_step rfl (s_call rfl rfl rfl (pushing_ok 9 _) (fun _ h => h.elim) ?_)
 rintro n1 _ effs1 hn1 hdom1 ⟨p, r, hp1, hr1, hpr1, rfl, rfl⟩ hok1
 have hw_p : w0.heap.size ≤ p := Nat.le_trans hn1 hp1
 have hw_r : w0.heap.size ≤ r := Nat.le_trans hn1 hr1
 have hz_p := hdom1 _ hp1
 have hz_r := hdom1 _ hr1
 have hO : OutIs ((AHeap.set (fun _ => none) r (bmRow [])).set p (.box (.agg [.int .i64 9, .map r]))) p r 9 (fun _ => s0) := ⟨[], _, PA.empty hpr1⟩
 generalize hh : (AHeap.set (fun _ => none) r (bmRow [])).set p (.box (.agg [.int .i64 9, .map r])) = h at hO
 have hab : ∀ b, h b ≠ none → w0.heap.size ≤ b := empty_above hh hw_p hw_r
 have hs : h.sub (setAll H [(p, .box (.agg [.int .i64 9, .map r])), (r, bmRow [])]) := by rw [← hh]; exact empty_sub
 have hs_H : H.sub (setAll H [(p, .box (.agg [.int .i64 9, .map r])), (r, bmRow [])]) := sub_set_free _ (sub_set_free _ (AHeap.sub_refl _) hz_r) hz_p
 refine g_step rfl (s_val (v_assign rfl) rfl rfl ?_)
 refine g_nil ?_
 refine g_next hK2 ?_
 refine g_seq (fun K3 hK3 => ?_)
 refine g_seq (fun K4 hK4 => ?_)
 refine g_region ?_
 refine g_step rfl (s_val (v_move rfl) rfl rfl ?_)
 refine g_step rfl (s_val (by first | exact v_ptr_eql_nil ty61 rfl rfl rfl | exact v_nil_eql_nil ty61 rfl rfl | exact v_ptrO_eql ty61 rfl rfl) rfl rfl ?_)
 refine g_nil ?_
 refine g_next hK4 ?_
 refine g_cond rfl (fun hc13 => ?_) (fun hc13 => ?_)
 · exfalso; (try simp only [decide_eq_true_eq, decide_eq_false_iff_not, Bool.not_eq_true', Bool.not_eq_false', Bool.not_eq_eq_eq_not, Bool.not_true, Bool.not_false, Bool.and_eq_true, Bool.or_eq_true, Bool.or_eq_false_iff, beq_iff_eq, beq_eq_false_iff_ne, ne_eq, Int.not_lt, Int.not_le, Decidable.not_not] at hc13); simp at hc13
 ·
  try simp only [decide_eq_true_eq, decide_eq_false_iff_not, Bool.not_eq_true', Bool.not_eq_false', Bool.not_eq_eq_eq_not, Bool.not_true, Bool.not_false, Bool.and_eq_true, Bool.or_eq_true, Bool.or_eq_false_iff, beq_iff_eq, beq_eq_false_iff_ne, ne_eq, Int.not_lt, Int.not_le, Decidable.not_not] at hc13
  refine g_skip ?_
  refine g_next hK3 ?_
  refine g_seq (fun K5 hK5 => ?_)
  refine g_region ?_
  refine g_step rfl (s_val (v_move rfl) rfl rfl ?_)
  refine g_step rfl (s_val (by first | exact v_loadl_all ty107 rfl rfl rfl rfl rfl | exact v_loadl_part (cs := [_, _]) ty107 rfl rfl rfl rfl rfl rfl) rfl rfl ?_)
  refine g_step rfl (s_val (v_sub (b := (encR rA)) (v_build (vs := [(0, _), (3, _)]) (zs := [(.int .i64 0), (.int .i64 0), (.int .i64 0), (.int .i64 0), (.int .i64 0), (.bool false), .nil0]) (cells := [_, _, _, _, _, _, _]) ty135 pl135 rfl rfl rfl) (ASub.of_wk rfl)) rfl rfl ?_)
  refine g_step rfl (s_lit ty64 ty135 rfl rfl rfl rfl rfl rfl rfl ?_)
  refine g_step rfl (s_call rfl rfl rfl (oNext_ok h p r 9 (fun _ => s0) 7 [rA] (by simp) (fun x hx => by simp at hx; subst hx; exact small_nil) _ hO hs ((SInv.zero 0).ok (by decide))) (fun b hb => .inr (hab b hb)) ?_)
  rintro n2 v2 effs2 hn2 hdom2 ⟨hv2, h1, hE2, hO1⟩ hok2
  rw [if_pos (show srt [rA] = true by decide)] at hv2 hO1
  subst hv2
  have hs1 := hE2.within hs
  have hab1 := hE2.above hn2 hab
  have hs_H1 := hE2.frame hdom2 hs_H (fun b hb => hw0 b (hab b hb))
  generalize hG1 : setAll _ effs2 = G1
  rw [hG1] at hs1 hs_H1
  refine g_step rfl (s_val (v_move rfl) rfl rfl ?_)
  refine g_step rfl (s_val (v_extract rfl rfl) rfl rfl ?_)
  refine g_step rfl (s_val (v_extract rfl rfl) rfl rfl ?_)
  refine g_step rfl (s_val (v_extract rfl rfl) rfl rfl ?_)
  refine g_step rfl (s_val (v_assign rfl) rfl rfl ?_)
  refine g_step rfl (s_val (v_assign rfl) rfl rfl ?_)
  refine g_step rfl (s_val (v_assign rfl) rfl rfl ?_)
  refine g_nil ?_
  refine g_next hK5 ?_
  refine g_seq (fun K6 hK6 => ?_)
  refine g_region ?_
  refine g_step rfl (s_val (v_move rfl) rfl rfl ?_)
  refine g_step rfl (s_call rfl rfl rfl (oAcked_ok h1 p r 9 (upd (fun _ => s0) 7 (nextF s0 [rA])) 7 9 1 _ hO1 hs1 (by rw [upd_at]; exact (((SInv.zero 0).next (by simp) (fun x hx => by simp at hx; subst hx; exact small_nil) (show srt [rA] = true by decide)).ok (by decide)))) (fun b hb => .inr (hab1 b hb)) ?_)
  rintro n3 v3 effs3 hn3 hdom3 ⟨hv3, h2, hE3, hO2⟩ hok3
  rw [upd_at, if_pos rfl] at hO2
  rw [upd_at, show (decide ((9 : Int) = 9) && ackB (nextF s0 [rA]) 1) = true by decide] at hv3
  subst hv3
  have hs2 := hE3.within hs1
  have hab2 := hE3.above hn3 hab1
  have hs_H2 := hE3.frame hdom3 hs_H1 (fun b hb => hw0 b (hab1 b hb))
  generalize hG2 : setAll G1 effs3 = G2
  rw [hG2] at hs2 hs_H2
  refine g_step rfl (s_val (v_assign rfl) rfl rfl ?_)
  refine g_nil ?_
  refine g_next hK6 ?_
  refine g_seq (fun K7 hK7 => ?_)
  refine g_region ?_
  refine g_step rfl (s_val (v_move rfl) rfl rfl ?_)
  refine g_step rfl (s_val (by first | exact v_loadl_all ty107 rfl rfl rfl rfl rfl | exact v_loadl_part (cs := [_, _]) ty107 rfl rfl rfl rfl rfl rfl) rfl rfl ?_)
  refine g_step rfl (s_val (v_sub (b := (encR rA)) (v_build (vs := [(0, _), (3, _)]) (zs := [(.int .i64 0), (.int .i64 0), (.int .i64 0), (.int .i64 0), (.int .i64 0), (.bool false), .nil0]) (cells := [_, _, _, _, _, _, _]) ty135 pl135 rfl rfl rfl) (ASub.of_wk rfl)) rfl rfl ?_)
  refine g_step rfl (s_val (by first | exact v_loadl_all ty107 rfl rfl rfl rfl rfl | exact v_loadl_part (cs := [_, _]) ty107 rfl rfl rfl rfl rfl rfl) rfl rfl ?_)
  refine g_step rfl (s_val (v_sub (b := (encR rB)) (v_build (vs := [(0, _), (3, _)]) (zs := [(.int .i64 0), (.int .i64 0), (.int .i64 0), (.int .i64 0), (.int .i64 0), (.bool false), .nil0]) (cells := [_, _, _, _, _, _, _]) ty135 pl135 rfl rfl rfl) (ASub.of_wk rfl)) rfl rfl ?_)
  refine g_step rfl (s_lit ty64 ty135 rfl rfl rfl rfl rfl rfl rfl ?_)
  refine g_step rfl (s_call rfl rfl rfl (oNext_ok h2 p r 9 (upd (upd (fun _ => s0) 7 (nextF s0 [rA])) 7 (ackF (nextF s0 [rA]) 1)) 7 [rA, rB] (by simp) (fun x hx => by simp at hx; rcases hx with rfl | rfl <;> exact small_nil) _ hO2 hs2 (by rw [upd_at]; exact ((((SInv.zero 0).next (by simp) (fun x hx => by simp at hx; subst hx; exact small_nil) (show srt [rA] = true by decide)).ack 1).ok (by decide)))) (fun b hb => .inr (hab2 b hb)) ?_)
  rintro n4 v4 effs4 hn4 hdom4 ⟨hv4, h3, hE4, hO3⟩ hok4
  rw [if_pos (show srt [rA, rB] = true by decide), upd_at, show nextBase (ackF (nextF s0 [rA]) 1) [rA, rB] = ⟨[rA], 1⟩ from rfl, show (ackF (nextF s0 [rA]) 1).last = 1 from rfl] at hv4
  subst hv4
  have hs_H3 := hE4.frame hdom4 hs_H2 (fun b hb => hw0 b (hab2 b hb))
  generalize hG3 : setAll G2 effs4 = G3
  rw [hG3] at hs_H3
  refine g_step rfl (s_val (v_move rfl) rfl rfl ?_)
  refine g_step rfl (s_val (v_extract rfl rfl) rfl rfl ?_)
  refine g_step rfl (s_val (v_extract rfl rfl) rfl rfl ?_)
  refine g_step rfl (s_val (v_extract rfl rfl) rfl rfl ?_)
  refine g_step rfl (s_val (v_assign rfl) rfl rfl ?_)
  refine g_step rfl (s_val (v_assign rfl) rfl rfl ?_)
  refine g_step rfl (s_val (v_assign rfl) rfl rfl ?_)
  refine g_nil ?_
  refine g_next hK7 ?_
  first | refine g_keep [3, 4, 5, 6, 7, 8, 9] [] [] (keep_cons rfl (keep_cons rfl (keep_cons rfl (keep_cons rfl (keep_cons rfl (keep_cons rfl (keep_cons rfl keep_nil))))))) lkeep_nil keep_nil rfl ?_ | refine g_keep [3, 4, 5, 6, 7, 8, 9] [] [] rfl rfl rfl rfl ?_
  refine g_seq (fun K8 hK8 => ?_)
  refine g_region ?_
  refine g_step rfl (s_val (v_move rfl) rfl rfl ?_)
  refine g_step rfl (s_val (v_eql rfl rfl) rfl rfl ?_)
  refine g_step rfl (s_val (v_move rfl) rfl rfl ?_)
  refine g_split 38 rfl (fun hg38 => ?_) (fun hg38 => ?_)
  ·
   try simp only [decide_eq_true_eq, decide_eq_false_iff_not, Bool.not_eq_true', Bool.not_eq_false', Bool.not_eq_eq_eq_not, Bool.not_true, Bool.not_false, Bool.and_eq_true, Bool.or_eq_true, Bool.or_eq_false_iff, beq_iff_eq, beq_eq_false_iff_ne, ne_eq, Int.not_lt, Int.not_le, Decidable.not_not] at hg38
   refine g_step_yes (j := 2) (t := 38) rfl rfl rfl rfl (s_val (v_move rfl) rfl rfl ?_)
   refine g_step_yes (j := 2) (t := 38) rfl rfl rfl rfl (s_val (v_eql rfl rfl) rfl rfl ?_)
   refine g_step rfl (s_val (v_pick_t rfl rfl) rfl rfl ?_)
   refine g_step rfl (s_val (v_move rfl) rfl rfl ?_)
   refine g_split 42 rfl (fun hg42 => ?_) (fun hg42 => ?_)
   ·
    try simp only [decide_eq_true_eq, decide_eq_false_iff_not, Bool.not_eq_true', Bool.not_eq_false', Bool.not_eq_eq_eq_not, Bool.not_true, Bool.not_false, Bool.and_eq_true, Bool.or_eq_true, Bool.or_eq_false_iff, beq_iff_eq, beq_eq_false_iff_ne, ne_eq, Int.not_lt, Int.not_le, Decidable.not_not] at hg42
    refine g_step_yes (j := 6) (t := 42) rfl rfl rfl rfl (s_val (v_move rfl) rfl rfl ?_)
    refine g_step_yes (j := 6) (t := 42) rfl rfl rfl rfl (s_val (v_len ty64 rfl (by first | rfl | assumption) (by first | exact List.length_map .. | rfl)) rfl rfl ?_)
    refine g_step_yes (j := 6) (t := 42) rfl rfl rfl rfl (s_val (v_eql rfl rfl) rfl rfl ?_)
    refine g_step rfl (s_val (v_pick_t rfl rfl) rfl rfl ?_)
    refine g_step rfl (s_val (v_move rfl) rfl rfl ?_)
    refine g_split 47 rfl (fun hg47 => ?_) (fun hg47 => ?_)
    ·
     try simp only [decide_eq_true_eq, decide_eq_false_iff_not, Bool.not_eq_true', Bool.not_eq_false', Bool.not_eq_eq_eq_not, Bool.not_true, Bool.not_false, Bool.and_eq_true, Bool.or_eq_true, Bool.or_eq_false_iff, beq_iff_eq, beq_eq_false_iff_ne, ne_eq, Int.not_lt, Int.not_le, Decidable.not_not] at hg47
     refine g_step_yes (j := 11) (t := 47) rfl rfl rfl rfl (s_val (v_move rfl) rfl rfl ?_)
     refine g_step rfl (s_val (v_pick_t rfl rfl) rfl rfl ?_)
     refine g_step rfl (s_val (v_move rfl) rfl rfl ?_)
     refine g_split 50 rfl (fun hg50 => ?_) (fun hg50 => ?_)
     ·
      try simp only [decide_eq_true_eq, decide_eq_false_iff_not, Bool.not_eq_true', Bool.not_eq_false', Bool.not_eq_eq_eq_not, Bool.not_true, Bool.not_false, Bool.and_eq_true, Bool.or_eq_true, Bool.or_eq_false_iff, beq_iff_eq, beq_eq_false_iff_ne, ne_eq, Int.not_lt, Int.not_le, Decidable.not_not] at hg50
      refine g_step_yes (j := 14) (t := 50) rfl rfl rfl rfl (s_val (v_move rfl) rfl rfl ?_)
      refine g_step_yes (j := 14) (t := 50) rfl rfl rfl rfl (s_val (v_eql rfl rfl) rfl rfl ?_)
      refine g_step rfl (s_val (v_pick_t rfl rfl) rfl rfl ?_)
      refine g_step rfl (s_val (v_move rfl) rfl rfl ?_)
      refine g_split 54 rfl (fun hg54 => ?_) (fun hg54 => ?_)
      ·
       try simp only [decide_eq_true_eq, decide_eq_false_iff_not, Bool.not_eq_true', Bool.not_eq_false', Bool.not_eq_eq_eq_not, Bool.not_true, Bool.not_false, Bool.and_eq_true, Bool.or_eq_true, Bool.or_eq_false_iff, beq_iff_eq, beq_eq_false_iff_ne, ne_eq, Int.not_lt, Int.not_le, Decidable.not_not] at hg54
       refine g_step_yes (j := 18) (t := 54) rfl rfl rfl rfl (s_val (v_move rfl) rfl rfl ?_)
       refine g_step_yes (j := 18) (t := 54) rfl rfl rfl rfl (s_val (v_eql rfl rfl) rfl rfl ?_)
       refine g_step rfl (s_val (v_pick_t rfl rfl) rfl rfl ?_)
       refine g_step rfl (s_val (v_move rfl) rfl rfl ?_)
       refine g_split 58 rfl (fun hg58 => ?_) (fun hg58 => ?_)
       ·
        try simp only [decide_eq_true_eq, decide_eq_false_iff_not, Bool.not_eq_true', Bool.not_eq_false', Bool.not_eq_eq_eq_not, Bool.not_true, Bool.not_false, Bool.and_eq_true, Bool.or_eq_true, Bool.or_eq_false_iff, beq_iff_eq, beq_eq_false_iff_ne, ne_eq, Int.not_lt, Int.not_le, Decidable.not_not] at hg58
        refine g_step_yes (j := 22) (t := 58) rfl rfl rfl rfl (s_val (v_move rfl) rfl rfl ?_)
        refine g_step_yes (j := 22) (t := 58) rfl rfl rfl rfl (s_val (v_len ty64 rfl (by first | rfl | assumption) (by first | exact List.length_map .. | rfl)) rfl rfl ?_)
        refine g_step_yes (j := 22) (t := 58) rfl rfl rfl rfl (s_val (v_eql rfl rfl) rfl rfl ?_)
        refine g_step rfl (s_val (v_pick_t rfl rfl) rfl rfl ?_)
        refine g_step rfl (s_val (v_move rfl) rfl rfl ?_)
        refine g_split 63 rfl (fun hg63 => ?_) (fun hg63 => ?_)
        ·
         try simp only [decide_eq_true_eq, decide_eq_false_iff_not, Bool.not_eq_true', Bool.not_eq_false', Bool.not_eq_eq_eq_not, Bool.not_true, Bool.not_false, Bool.and_eq_true, Bool.or_eq_true, Bool.or_eq_false_iff, beq_iff_eq, beq_eq_false_iff_ne, ne_eq, Int.not_lt, Int.not_le, Decidable.not_not] at hg63
         refine g_step_yes (j := 27) (t := 63) rfl rfl rfl rfl (s_val (v_move rfl) rfl rfl ?_)
         refine g_step_yes (j := 27) (t := 63) rfl rfl rfl rfl (s_val (v_indexAddr ty64 ty135 rfl rfl (by first | rfl | assumption) (by first | rfl | exact (rfl : (0 : Int) = ((0 : Nat) : Int)) | exact (Int.toNat_of_nonneg (by omega)).symm) (by first | assumption | exact map_get (by assumption) | rfl) rfl) rfl rfl ?_)
         refine g_step_yes (j := 27) (t := 63) rfl rfl rfl rfl (s_val (by first | exact v_fieldAddr ty135 fo135_0 ty3 rfl | exact v_fieldAddr_box ty135 fo135_0 ty3 rfl) rfl rfl ?_)
         refine g_step_yes (j := 27) (t := 63) rfl rfl rfl rfl (s_val (by first | exact v_load ty3 rfl rfl (by first | rfl | assumption) (by first | assumption | exact map_get (by assumption) | rfl) rfl | exact v_load_box ty3 rfl rfl (by assumption) rfl) rfl rfl ?_)
         refine g_step_yes (j := 27) (t := 63) rfl rfl rfl rfl (s_val (v_eql rfl rfl) rfl rfl ?_)
         refine g_step rfl (s_val (v_pick_t rfl rfl) rfl rfl ?_)
         refine g_step rfl (s_val (v_assign rfl) rfl rfl ?_)
         refine g_nil ?_
         refine g_next hK8 ?_
         first | refine g_keep [0] [] [] (keep_cons rfl keep_nil) lkeep_nil keep_nil rfl ?_ | refine g_keep [0] [] [] rfl rfl rfl rfl ?_
         refine g_ret ?_
         refine g_end1 (.inl rfl) Try.results35 (.tmp rfl) [] (ASub.refl _) hs_H3 (fun p hp => by cases hp) ⟨rfl, ?_⟩
         rfl
        · exfalso; (try simp only [decide_eq_true_eq, decide_eq_false_iff_not, Bool.not_eq_true', Bool.not_eq_false', Bool.not_eq_eq_eq_not, Bool.not_true, Bool.not_false, Bool.and_eq_true, Bool.or_eq_true, Bool.or_eq_false_iff, beq_iff_eq, beq_eq_false_iff_ne, ne_eq, Int.not_lt, Int.not_le, Decidable.not_not] at hg63); revert hg63; decide
       · exfalso; (try simp only [decide_eq_true_eq, decide_eq_false_iff_not, Bool.not_eq_true', Bool.not_eq_false', Bool.not_eq_eq_eq_not, Bool.not_true, Bool.not_false, Bool.and_eq_true, Bool.or_eq_true, Bool.or_eq_false_iff, beq_iff_eq, beq_eq_false_iff_ne, ne_eq, Int.not_lt, Int.not_le, Decidable.not_not] at hg58); revert hg58; decide
      · exfalso; (try simp only [decide_eq_true_eq, decide_eq_false_iff_not, Bool.not_eq_true', Bool.not_eq_false', Bool.not_eq_eq_eq_not, Bool.not_true, Bool.not_false, Bool.and_eq_true, Bool.or_eq_true, Bool.or_eq_false_iff, beq_iff_eq, beq_eq_false_iff_ne, ne_eq, Int.not_lt, Int.not_le, Decidable.not_not] at hg54); revert hg54; decide
     · exfalso; (try simp only [decide_eq_true_eq, decide_eq_false_iff_not, Bool.not_eq_true', Bool.not_eq_false', Bool.not_eq_eq_eq_not, Bool.not_true, Bool.not_false, Bool.and_eq_true, Bool.or_eq_true, Bool.or_eq_false_iff, beq_iff_eq, beq_eq_false_iff_ne, ne_eq, Int.not_lt, Int.not_le, Decidable.not_not] at hg50); revert hg50; decide
    · exfalso; (try simp only [decide_eq_true_eq, decide_eq_false_iff_not, Bool.not_eq_true', Bool.not_eq_false', Bool.not_eq_eq_eq_not, Bool.not_true, Bool.not_false, Bool.and_eq_true, Bool.or_eq_true, Bool.or_eq_false_iff, beq_iff_eq, beq_eq_false_iff_ne, ne_eq, Int.not_lt, Int.not_le, Decidable.not_not] at hg47); revert hg47; decide
   · exfalso; (try simp only [decide_eq_true_eq, decide_eq_false_iff_not, Bool.not_eq_true', Bool.not_eq_false', Bool.not_eq_eq_eq_not, Bool.not_true, Bool.not_false, Bool.and_eq_true, Bool.or_eq_true, Bool.or_eq_false_iff, beq_iff_eq, beq_eq_false_iff_ne, ne_eq, Int.not_lt, Int.not_le, Decidable.not_not] at hg42); revert hg42; decide
  · exfalso; (try simp only [decide_eq_true_eq, decide_eq_false_iff_not, Bool.not_eq_true', Bool.not_eq_false', Bool.not_eq_eq_eq_not, Bool.not_true, Bool.not_false, Bool.and_eq_true, Bool.or_eq_true, Bool.or_eq_false_iff, beq_iff_eq, beq_eq_false_iff_ne, ne_eq, Int.not_lt, Int.not_le, Decidable.not_not] at hg38); revert hg38; decide

end Go.Proofs.Ytobigfbgaiglkaa

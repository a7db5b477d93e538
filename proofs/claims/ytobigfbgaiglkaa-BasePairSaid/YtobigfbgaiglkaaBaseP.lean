import Derived.Test.YtobigfbgaiglkaaBaseO
import Derived.Test.YtobigfbgaiglkaaBase3
import Derived.Test.YtobigfbgaiglkaaPPair
set_option maxHeartbeats 8000000
set_option linter.unusedSimpArgs false
set_option linter.unusedVariables false
set_option maxRecDepth 100000
namespace Go.Proofs.Ytobigfbgaiglkaa
open Go Go.Proofs.Ytobigfbgaiglkaa.AM
theorem basePair_ok (l : List Ply) (hh : ∀ a ∈ l, ∀ r ∈ a.now, Held r.bag) (hb : ∀ a ∈ l, a.now.length ≤ 140737488351232) (G : AHeap) : PCalls Try.prog 9 [.imm (l.map encPl)] G (fun r => r = .bool true) := by
 refine LCalls.intro 212 fi9 rfl Try.ntmps9 rfl (fun _ h => h.elim) (fun H hH w0 hw0 => ?_)
 refine g_seq (fun K0 hK0 => ?_)
 refine g_region ?_
 refine g_step rfl (s_val (v_assign rfl) rfl rfl ?_)
 refine g_nil ?_
 refine g_next hK0 ?_
 refine g_seq (fun K1 hK1 => ?_)
 refine g_seq (fun K2 hK2 => ?_)
 refine g_region ?_
 refine g_step rfl (s_val (v_move rfl) rfl rfl ?_)
 refine g_step rfl (s_val (v_len ty92 rfl (by first | rfl | assumption) (by first | exact List.length_map .. | rfl)) rfl rfl ?_)
 refine g_step rfl (s_val (v_gtr rfl rfl) rfl rfl ?_)
 refine g_nil ?_
 refine g_next hK2 ?_
 refine g_cond rfl (fun hc22 => ?_) (fun hc22 => ?_)
 ·
  try simp only [decide_eq_true_eq, decide_eq_false_iff_not, Bool.not_eq_true', Bool.not_eq_false', Bool.not_eq_eq_eq_not, Bool.not_true, Bool.not_false, Bool.and_eq_true, Bool.or_eq_true, Bool.or_eq_false_iff, beq_iff_eq, beq_eq_false_iff_ne, ne_eq, Int.not_lt, Int.not_le, Decidable.not_not] at hc22
  refine g_seq (fun K3 hK3 => ?_)
  refine g_region ?_
  refine g_step rfl (s_callp rfl rfl rfl (awake26_ok _) ?_)
  rintro _ rfl
  refine g_step rfl (s_val (v_assign rfl) rfl rfl ?_)
  refine g_nil ?_
  refine g_next hK3 ?_
  refine g_ret ?_
  refine g_then_ret ?_
  refine g_end1 (.inl rfl) Try.results9 (.tmp rfl) [] (ASub.refl _) (by first | exact hs_H | exact AHeap.sub_refl _) (fun p hp => by cases hp) ⟨rfl, ?_⟩
  rfl
 ·
  try simp only [decide_eq_true_eq, decide_eq_false_iff_not, Bool.not_eq_true', Bool.not_eq_false', Bool.not_eq_eq_eq_not, Bool.not_true, Bool.not_false, Bool.and_eq_true, Bool.or_eq_true, Bool.or_eq_false_iff, beq_iff_eq, beq_eq_false_iff_ne, ne_eq, Int.not_lt, Int.not_le, Decidable.not_not] at hc22
  refine g_skip ?_
  refine g_next hK1 ?_
  refine g_seq (fun K4 hK4 => ?_)
  refine g_region ?_
  refine g_step rfl (s_val (v_assign rfl) rfl rfl ?_)
  refine g_nil ?_
  refine g_next hK4 ?_
  refine g_seq (fun K5 hK5 => ?_)
  refine g_region ?_
  refine g_step rfl (s_val (v_move rfl) rfl rfl ?_)
  refine g_step rfl (s_call rfl rfl rfl (pushing_ok 1 _) (fun _ h => h.elim) ?_)
  have hs_H := AHeap.sub_refl H
  rintro n1 _ effs1 hn1 hdom1 ⟨po, ro, hp1, hr1, hpr1, rfl, rfl⟩ hok1
  have hE1 := empty_eff (x := bmRow []) (y := .box (.agg [.int .i64 1, .map ro])) hp1 hr1
  have hSep1 : Sep w0.heap.size _ [((AHeap.set noH ro (bmRow [])).set po (.box (.agg [.int .i64 1, .map ro]))), noH, noH, noH] := (show Sep w0.heap.size _ ([] ++ _ :: _) from Sep.zero w0.heap.size H 4).fresh hE1 hn1 hdom1
  have hO1 : OutIs ((AHeap.set noH ro (bmRow [])).set po (.box (.agg [.int .i64 1, .map ro]))) po ro 1 (fun _ => s0) := ⟨[], _, PA.empty (h0 := noH) hpr1⟩
  have hs_H1 := hE1.frame hdom1 hs_H (fun b hb => absurd rfl hb)
  generalize hG1 : setAll H _ = G1 at hSep1 hs_H1 ⊢
  refine g_step rfl (s_val (v_assign rfl) rfl rfl ?_)
  refine g_nil ?_
  refine g_next hK5 ?_
  refine g_seq (fun K6 hK6 => ?_)
  refine g_region ?_
  refine g_step rfl (s_call rfl rfl rfl (pushed_ok _) (fun _ h => h.elim) ?_)
  rintro n2 _ effs2 hn2 hdom2 ⟨pn, rn, hp2, hr2, hpr2, rfl, rfl⟩ hok2
  have hE2 := empty_eff (x := bmRow []) (y := .box (.agg [.map rn])) hp2 hr2
  have hSep2 : Sep w0.heap.size _ [_, ((AHeap.set noH rn (bmRow [])).set pn (.box (.agg [.map rn]))), noH, noH] := (show Sep w0.heap.size _ ([_] ++ _ :: _) from hSep1).fresh hE2 hn2 hdom2
  have hI2 : InIs ((AHeap.set noH rn (bmRow [])).set pn (.box (.agg [.map rn]))) pn rn (fun _ => none) := ⟨[], _, PA.empty (h0 := noH) hpr2, fun _ _ h => by cases h⟩
  have hs_H2 := hE2.frame hdom2 hs_H1 (fun b hb => absurd rfl hb)
  generalize hG2 : setAll G1 _ = G2 at hSep2 hs_H2 ⊢
  refine g_step rfl (s_val (v_assign rfl) rfl rfl ?_)
  refine g_nil ?_
  refine g_next hK6 ?_
  refine g_seq (fun K7 hK7 => ?_)
  refine g_region ?_
  refine g_step rfl (s_val (v_assign rfl) rfl rfl ?_)
  refine g_nil ?_
  refine g_next hK7 ?_
  refine g_seq (fun K8 hK8 => ?_)
  refine g_region ?_
  refine g_step rfl (s_val (v_assign rfl) rfl rfl ?_)
  refine g_nil ?_
  refine g_next hK8 ?_
  refine g_seq (fun K9 hK9 => ?_)
  refine g_seq (fun K10 hK10 => ?_)
  refine g_region ?_
  refine g_step rfl (s_val (v_assign rfl) rfl rfl ?_)
  refine g_nil ?_
  refine g_next hK10 ?_
  refine g_block ?_
  first | refine g_keep [0, 3, 4, 5, 6, 7, 8] [] [] (keep_cons rfl (keep_cons rfl (keep_cons rfl (keep_cons rfl (keep_cons rfl (keep_cons rfl (keep_cons rfl keep_nil))))))) lkeep_nil keep_nil rfl ?_ | refine g_keep [0, 3, 4, 5, 6, 7, 8] [] [] rfl rfl rfl rfl ?_
  refine g_loop (fun n env L B G => ∃ (k : Nat) (life : Int) (po ro pn rn : Nat) (f : Int → Snt) (o : Int → Option Gt) (a6 a7 : AV) (out : List Push) (back : List Ans) (ho hn h6 h7 : AHeap), k ≤ l.length ∧ n = l.length - k ∧ env = [(0, .imm (l.map encPl)), (3, .int .i64 life), (4, .box po 0), (5, .box pn 0), (6, a6), (7, a7), (8, .int .i64 (k : Int))] ∧ L = [] ∧ B = [] ∧ OutIs ho po ro life f ∧ InIs hn pn rn o ∧ SV h6 6 a6 (out.map encPu) ∧ SV h7 3 a7 (back.map encAn) ∧ Sep w0.heap.size G [ho, hn, h6, h7] ∧ H.sub G ∧ PInv k life (f 0) (o 0) out ∧ back.length ≤ k) (l.length) ⟨0, 1, po, ro, pn, rn, (fun _ => s0), (fun _ => none), .nil0, .nil0, [], [], _, _, noH, noH, Nat.zero_le _, rfl, rfl, rfl, rfl, ⟨hO1, hI2, .inl ⟨rfl, rfl⟩, .inl ⟨rfl, rfl⟩, hSep2, hs_H2, PInv.zero, Nat.le_refl _⟩⟩ (fun n env L B G hI => ?_)
  obtain ⟨k, life, po, ro, pn, rn, f, o, a6, a7, out, back, ho, hn, h6, h7, hk, rfl, rfl, rfl, rfl, hO, hI, hV6, hV7, hSep, hs_H, hInv, hbl⟩ := hI
  have hv6 := hV6.mono (hSep.1 h6 (by simp)).1
  have hv7 := hV7.mono (hSep.1 h7 (by simp)).1
  have hso := (hSep.1 ho (by simp)).1
  have hsi := (hSep.1 hn (by simp)).1
  have hao := (hSep.1 ho (by simp)).2
  have hai := (hSep.1 hn (by simp)).2
  refine g_seq (fun K11 hK11 => ?_)
  refine g_seq (fun K12 hK12 => ?_)
  refine g_region ?_
  refine g_step rfl (s_val (v_move rfl) rfl rfl ?_)
  refine g_step rfl (s_val (v_move rfl) rfl rfl ?_)
  refine g_step rfl (s_val (v_len ty92 rfl (by first | rfl | assumption) (by first | exact List.length_map .. | rfl)) rfl rfl ?_)
  refine g_step rfl (s_val (v_lss rfl rfl) rfl rfl ?_)
  refine g_nil ?_
  refine g_next hK12 ?_
  refine g_cond rfl (fun hc30 => ?_) (fun hc30 => ?_)
  ·
   try simp only [decide_eq_true_eq, decide_eq_false_iff_not, Bool.not_eq_true', Bool.not_eq_false', Bool.not_eq_eq_eq_not, Bool.not_true, Bool.not_false, Bool.and_eq_true, Bool.or_eq_true, Bool.or_eq_false_iff, beq_iff_eq, beq_eq_false_iff_ne, ne_eq, Int.not_lt, Int.not_le, Decidable.not_not] at hc30
   obtain ⟨x, hx⟩ := get_some (l := l) (k := k) (by omega)
   have hxm := mem_get hx
   have hk40 : k ≤ 40 := by omega
   have hlen := hInv.len
   have hlf := hInv.life1
   refine g_skip ?_
   refine g_next hK11 ?_
   refine g_seq (fun K13 hK13 => ?_)
   refine g_block ?_
   refine g_seq (fun K14 hK14 => ?_)
   refine g_region ?_
   refine g_step rfl (s_val (v_move rfl) rfl rfl ?_)
   refine g_step rfl (s_val (v_move rfl) rfl rfl ?_)
   refine g_step rfl (s_val (v_indexAddr ty92 ty96 rfl rfl (by first | rfl | assumption) (by first | rfl | exact (rfl : (0 : Int) = ((0 : Nat) : Int)) | exact (Int.toNat_of_nonneg (by omega)).symm) (by first | assumption | exact map_get (by assumption) | rfl) rfl) rfl rfl ?_)
   refine g_step rfl (s_val (by first | exact v_load_elt ty96 rfl rfl (by first | rfl | assumption) (by first | assumption | exact map_get (by assumption) | rfl) rfl rfl | exact v_load_box_all ty96 rfl rfl (by assumption) rfl rfl | exact v_load_part (cs := [_, _, _]) ty96 rfl rfl (by first | rfl | assumption) (by first | assumption | exact map_get (by assumption) | rfl) rfl rfl rfl | exact v_load_box_part (cs := [_, _, _]) ty96 rfl rfl (by assumption) rfl rfl rfl) rfl rfl ?_)
   refine g_step rfl (s_alloc (av := (.agg [(.int .i64 0), (.int .i64 0), .nil0])) ty96 rfl rfl rfl rfl ?_)
   refine g_step rfl (s_store_all ty96 rfl rfl rfl rfl rfl rfl ?_)
   refine g_nil ?_
   refine g_next hK14 ?_
   refine g_seq (fun K15 hK15 => ?_)
   refine g_seq (fun K16 hK16 => ?_)
   refine g_region ?_
   refine g_step rfl (s_fieldAddr ty96 fo96_2 ty64 rfl rfl ?_)
   refine g_step rfl (s_val (v_loadl ty64 rfl rfl rfl rfl) rfl rfl ?_)
   refine g_step rfl (s_callp rfl rfl rfl (fewL_ok x.now _ _ rfl (hh x hxm) (hb x hxm)) ?_)
   rintro _ rfl
   refine g_step rfl (s_val (v_not rfl) rfl rfl ?_)
   refine g_nil ?_
   refine g_next hK16 ?_
   refine g_cond rfl (fun hc40 => ?_) (fun hc40 => ?_)
   ·
    try simp only [decide_eq_true_eq, decide_eq_false_iff_not, Bool.not_eq_true', Bool.not_eq_false', Bool.not_eq_eq_eq_not, Bool.not_true, Bool.not_false, Bool.and_eq_true, Bool.or_eq_true, Bool.or_eq_false_iff, beq_iff_eq, beq_eq_false_iff_ne, ne_eq, Int.not_lt, Int.not_le, Decidable.not_not] at hc40
    refine g_seq (fun K17 hK17 => ?_)
    refine g_region ?_
    refine g_step rfl (s_callp rfl rfl rfl (awake26_ok _) ?_)
    rintro _ rfl
    refine g_step rfl (s_val (v_assign rfl) rfl rfl ?_)
    refine g_nil ?_
    refine g_next hK17 ?_
    refine g_ret ?_
    refine g_then_ret ?_
    refine g_block_ret ?_
    refine g_then_ret ?_
    refine g_then_ret ?_
    refine g_block_ret ?_
    refine g_then_ret ?_
    refine g_end1 (.inl rfl) Try.results9 (.tmp rfl) [] (ASub.refl _) (by first | exact hs_H | exact AHeap.sub_refl _) (fun p hp => by cases hp) ⟨rfl, ?_⟩
    rfl
   ·
    try simp only [decide_eq_true_eq, decide_eq_false_iff_not, Bool.not_eq_true', Bool.not_eq_false', Bool.not_eq_eq_eq_not, Bool.not_true, Bool.not_false, Bool.and_eq_true, Bool.or_eq_true, Bool.or_eq_false_iff, beq_iff_eq, beq_eq_false_iff_ne, ne_eq, Int.not_lt, Int.not_le, Decidable.not_not] at hc40
    obtain ⟨hn20, hns⟩ := fewL_small (l := x.now) (by simpa using hc40)
    refine g_skip ?_
    refine g_next hK15 ?_
    refine g_seq (fun K18 hK18 => ?_)
    refine g_region ?_
    refine g_step rfl (s_fieldAddr ty96 fo96_0 ty3 rfl rfl ?_)
    refine g_step rfl (s_val (v_loadl ty3 rfl rfl rfl rfl) rfl rfl ?_)
    refine g_step rfl (s_val (v_eql rfl rfl) rfl rfl ?_)
    refine g_nil ?_
    refine g_next hK18 ?_
    refine g_cond rfl (fun hc44 => ?_) (fun hc44 => ?_)
    ·
     try simp only [decide_eq_true_eq, decide_eq_false_iff_not, Bool.not_eq_true', Bool.not_eq_false', Bool.not_eq_eq_eq_not, Bool.not_true, Bool.not_false, Bool.and_eq_true, Bool.or_eq_true, Bool.or_eq_false_iff, beq_iff_eq, beq_eq_false_iff_ne, ne_eq, Int.not_lt, Int.not_le, Decidable.not_not] at hc44
     refine g_seq (fun K19 hK19 => ?_)
     refine g_region ?_
     rcases hsn : srt x.now with _ | _
     ·
      refine g_step rfl (s_val (v_move rfl) rfl rfl ?_)
      refine g_step rfl (s_fieldAddr ty96 fo96_2 ty64 rfl rfl ?_)
      refine g_step rfl (s_val (v_loadl ty64 rfl rfl rfl rfl) rfl rfl ?_)
      refine g_step rfl (s_call rfl rfl rfl (oNext_ok ho po ro life f 0 x.now (by omega) hns _ hO hso (hInv.okS (by omega))) (fun b hb => .inr (hao b hb)) ?_)
      rintro n3 v3 effs3 hn3 hdom3 ⟨hv3, h1, hE3, hX1⟩ hok3
      rw [if_neg (by simp [hsn])] at hv3 hX1
      subst hv3
      rw [upd_id] at hX1
      have hSep1 : Sep w0.heap.size _ [h1, hn, h6, h7] := (show Sep w0.heap.size _ ([] ++ _ :: _) from hSep).turn hE3 hn3 hdom3
      have hs_H1 := hE3.frame hdom3 hs_H (fun b hb => hw0 b (hao b hb))
      generalize hG1 : setAll G effs3 = G1 at hSep1 hs_H1 ⊢
      refine g_step rfl (s_val (v_move rfl) rfl rfl ?_)
      refine g_step rfl (s_val (v_extract rfl rfl) rfl rfl ?_)
      refine g_step rfl (s_val (v_extract rfl rfl) rfl rfl ?_)
      refine g_step rfl (s_val (v_extract rfl rfl) rfl rfl ?_)
      refine g_step rfl (s_val (v_assign rfl) rfl rfl ?_)
      refine g_step rfl (s_val (v_assign rfl) rfl rfl ?_)
      refine g_step rfl (s_val (v_assign rfl) rfl rfl ?_)
      refine g_nil ?_
      refine g_next hK19 ?_
      first | refine g_keep [0, 3, 4, 5, 6, 7, 8, 10, 11, 12] [9] [9] (keep_cons rfl (keep_cons rfl (keep_cons rfl (keep_cons rfl (keep_cons rfl (keep_cons rfl (keep_cons rfl (keep_cons rfl (keep_cons rfl (keep_cons rfl keep_nil)))))))))) (lkeep_cons rfl lkeep_nil) (keep_cons rfl keep_nil) rfl ?_ | refine g_keep [0, 3, 4, 5, 6, 7, 8, 10, 11, 12] [9] [9] rfl rfl rfl rfl ?_
      refine g_seq (fun K20 hK20 => ?_)
      refine g_region ?_
      refine g_step rfl (s_val (v_move rfl) rfl rfl ?_)
      refine g_step rfl (s_fieldAddr ty96 fo96_2 ty64 rfl rfl ?_)
      refine g_step rfl (s_val (v_loadl ty64 rfl rfl rfl rfl) rfl rfl ?_)
      refine g_step rfl (s_callp rfl rfl rfl (ddiff_ok [] x.now _ (by simp) (by omega) (fun x hx => by simp at hx) hns) ?_)
      rintro _ rfl
      rw [hsn, Bool.and_false, if_neg (by simp)]
      refine g_step rfl (s_val (v_move rfl) rfl rfl ?_)
      refine g_step rfl (s_val (v_extract rfl rfl) rfl rfl ?_)
      refine g_step rfl (s_val (v_extract rfl rfl) rfl rfl ?_)
      refine g_step rfl (s_val (v_assign rfl) rfl rfl ?_)
      refine g_step rfl (s_val (v_assign rfl) rfl rfl ?_)
      refine g_nil ?_
      refine g_next hK20 ?_
      refine g_seq (fun K21 hK21 => ?_)
      refine g_region ?_
      refine g_step rfl (s_val (v_move rfl) rfl rfl ?_)
      refine g_step rfl (s_val (v_move rfl) rfl rfl ?_)
      refine g_split 61 rfl (fun hg61 => ?_) (fun hg61 => ?_)
      · exfalso; (try simp only [decide_eq_true_eq, decide_eq_false_iff_not, Bool.not_eq_true', Bool.not_eq_false', Bool.not_eq_eq_eq_not, Bool.not_true, Bool.not_false, Bool.and_eq_true, Bool.or_eq_true, Bool.or_eq_false_iff, beq_iff_eq, beq_eq_false_iff_ne, ne_eq, Int.not_lt, Int.not_le, Decidable.not_not] at hg61); simp at hg61
      ·
       try simp only [decide_eq_true_eq, decide_eq_false_iff_not, Bool.not_eq_true', Bool.not_eq_false', Bool.not_eq_eq_eq_not, Bool.not_true, Bool.not_false, Bool.and_eq_true, Bool.or_eq_true, Bool.or_eq_false_iff, beq_iff_eq, beq_eq_false_iff_ne, ne_eq, Int.not_lt, Int.not_le, Decidable.not_not] at hg61
       refine g_step_no (j := 1) (t := 61) rfl rfl rfl rfl rfl rfl rfl ?_
       refine g_step_no (j := 1) (t := 61) rfl rfl rfl rfl rfl rfl rfl ?_
       refine g_step rfl (s_val (v_pick_f rfl rfl) rfl rfl ?_)
       refine g_nil ?_
       refine g_next hK21 ?_
       refine g_cond rfl (fun h => by cases h) (fun _ => ?_)
       refine g_skip ?_
       refine g_block_normal ?_
       refine g_next hK13 ?_
       refine g_region ?_
       refine g_step rfl (s_val (v_move rfl) rfl rfl ?_)
       refine g_step rfl (s_val (v_add rfl rfl (by omega)) rfl rfl ?_)
       refine g_step rfl (s_val (v_assign rfl) rfl rfl ?_)
       refine g_nil ?_
       first | refine g_keep [0, 3, 4, 5, 6, 7, 8] [] [] (keep_cons rfl (keep_cons rfl (keep_cons rfl (keep_cons rfl (keep_cons rfl (keep_cons rfl (keep_cons rfl keep_nil))))))) lkeep_nil keep_nil rfl ?_ | refine g_keep [0, 3, 4, 5, 6, 7, 8] [] [] rfl rfl rfl rfl ?_
       exact g_round _ (by omega) ⟨k + 1, life, po, ro, pn, rn, f, o, a6, a7, out, back, h1, hn, h6, h7, by omega, rfl, rfl, rfl, rfl, ⟨hX1, hI, hV6, hV7, hSep1, hs_H1, hInv.mono (by omega), by omega⟩⟩
     ·
      refine g_step rfl (s_val (v_move rfl) rfl rfl ?_)
      refine g_step rfl (s_fieldAddr ty96 fo96_2 ty64 rfl rfl ?_)
      refine g_step rfl (s_val (v_loadl ty64 rfl rfl rfl rfl) rfl rfl ?_)
      refine g_step rfl (s_call rfl rfl rfl (oNext_ok ho po ro life f 0 x.now (by omega) hns _ hO hso (hInv.okS (by omega))) (fun b hb => .inr (hao b hb)) ?_)
      rintro n3 v3 effs3 hn3 hdom3 ⟨hv3, h1, hE3, hX1⟩ hok3
      rw [if_pos hsn] at hv3 hX1
      subst hv3
      have hnb := nextBase_ok (hInv.okS (by omega)) (now := x.now)
      have hnf : srt (nextBase (f 0) x.now).recs = true := by rcases nextBase_or (f 0) x.now with e | e <;> rw [e]; rfl; exact hInv.sinv.base.2.2
      have hlp := hInv.sinv.last
      have hSep1 : Sep w0.heap.size _ [h1, hn, h6, h7] := (show Sep w0.heap.size _ ([] ++ _ :: _) from hSep).turn hE3 hn3 hdom3
      have hs_H1 := hE3.frame hdom3 hs_H (fun b hb => hw0 b (hao b hb))
      generalize hG1 : setAll G effs3 = G1 at hSep1 hs_H1 ⊢
      refine g_step rfl (s_val (v_move rfl) rfl rfl ?_)
      refine g_step rfl (s_val (v_extract rfl rfl) rfl rfl ?_)
      refine g_step rfl (s_val (v_extract rfl rfl) rfl rfl ?_)
      refine g_step rfl (s_val (v_extract rfl rfl) rfl rfl ?_)
      refine g_step rfl (s_val (v_assign rfl) rfl rfl ?_)
      refine g_step rfl (s_val (v_assign rfl) rfl rfl ?_)
      refine g_step rfl (s_val (v_assign rfl) rfl rfl ?_)
      refine g_nil ?_
      refine g_next hK19 ?_
      first | refine g_keep [0, 3, 4, 5, 6, 7, 8, 10, 11, 12] [9] [9] (keep_cons rfl (keep_cons rfl (keep_cons rfl (keep_cons rfl (keep_cons rfl (keep_cons rfl (keep_cons rfl (keep_cons rfl (keep_cons rfl (keep_cons rfl keep_nil)))))))))) (lkeep_cons rfl lkeep_nil) (keep_cons rfl keep_nil) rfl ?_ | refine g_keep [0, 3, 4, 5, 6, 7, 8, 10, 11, 12] [9] [9] rfl rfl rfl rfl ?_
      refine g_seq (fun K22 hK22 => ?_)
      refine g_region ?_
      refine g_step rfl (s_val (v_move rfl) rfl rfl ?_)
      refine g_step rfl (s_fieldAddr ty96 fo96_2 ty64 rfl rfl ?_)
      refine g_step rfl (s_val (v_loadl ty64 rfl rfl rfl rfl) rfl rfl ?_)
      refine g_step rfl (s_callp rfl rfl rfl (ddiff_ok (nextBase (f 0) x.now).recs x.now _ (Nat.le_trans hnb.1 (by decide)) (by omega) hnb.2 hns) ?_)
      rintro _ rfl
      rw [hnf, hsn, Bool.and_self, if_pos rfl]
      refine g_step rfl (s_val (v_move rfl) rfl rfl ?_)
      refine g_step rfl (s_val (v_extract rfl rfl) rfl rfl ?_)
      refine g_step rfl (s_val (v_extract rfl rfl) rfl rfl ?_)
      refine g_step rfl (s_val (v_assign rfl) rfl rfl ?_)
      refine g_step rfl (s_val (v_assign rfl) rfl rfl ?_)
      refine g_nil ?_
      refine g_next hK22 ?_
      refine g_seq (fun K23 hK23 => ?_)
      refine g_region ?_
      refine g_step rfl (s_val (v_move rfl) rfl rfl ?_)
      refine g_step rfl (s_val (v_move rfl) rfl rfl ?_)
      refine g_split 61 rfl (fun hg61 => ?_) (fun hg61 => ?_)
      ·
       try simp only [decide_eq_true_eq, decide_eq_false_iff_not, Bool.not_eq_true', Bool.not_eq_false', Bool.not_eq_eq_eq_not, Bool.not_true, Bool.not_false, Bool.and_eq_true, Bool.or_eq_true, Bool.or_eq_false_iff, beq_iff_eq, beq_eq_false_iff_ne, ne_eq, Int.not_lt, Int.not_le, Decidable.not_not] at hg61
       refine g_step_yes (j := 1) (t := 61) rfl rfl rfl rfl (s_val (v_move rfl) rfl rfl ?_)
       refine g_step_yes (j := 1) (t := 61) rfl rfl rfl rfl (s_val (v_gtr rfl rfl) rfl rfl ?_)
       refine g_step rfl (s_val (v_pick_t rfl rfl) rfl rfl ?_)
       refine g_nil ?_
       refine g_next hK23 ?_
       refine g_cond rfl (fun hc64 => ?_) (fun hc64 => ?_)
       ·
        try simp only [decide_eq_true_eq, decide_eq_false_iff_not, Bool.not_eq_true', Bool.not_eq_false', Bool.not_eq_eq_eq_not, Bool.not_true, Bool.not_false, Bool.and_eq_true, Bool.or_eq_true, Bool.or_eq_false_iff, beq_iff_eq, beq_eq_false_iff_ne, ne_eq, Int.not_lt, Int.not_le, Decidable.not_not] at hc64
        refine g_region ?_
        refine g_step rfl (s_val (v_move rfl) rfl rfl ?_)
        refine g_step rfl (s_val (v_move rfl) rfl rfl ?_)
        refine g_step rfl (s_val (v_move rfl) rfl rfl ?_)
        refine g_step rfl (s_val (v_move rfl) rfl rfl ?_)
        refine g_step rfl (s_val (v_move rfl) rfl rfl ?_)
        refine g_step rfl (s_val (v_move rfl) rfl rfl ?_)
        refine g_step rfl (s_fieldAddr ty96 fo96_2 ty64 rfl rfl ?_)
        refine g_step rfl (s_val (v_loadl ty64 rfl rfl rfl rfl) rfl rfl ?_)
        refine g_step rfl (s_val (v_build (vs := [(0, _), (1, _), (2, _), (3, _), (4, _), (5, _)]) (zs := [(.int .i64 0), (.int .i64 0), (.int .i64 0), .nil0, .nil0, .nil0]) (cells := [_, _, _, _, _, _]) ty99 pl99 rfl rfl rfl) rfl rfl ?_)
        refine g_step rfl (s_lit ty93 ty99 rfl rfl rfl rfl rfl rfl rfl ?_)
        refine g_step rfl (s_appendV (l := (out.map encPu)) (m := ([(newPush life (f 0) x.now)].map encPu)) ty93 ty99 rfl rfl (by have h9 := (show Sep w0.heap.size _ ([h1, hn] ++ _ :: _) from hSep1).sv hV6; exact h9) rfl rfl (by refine Even.map _ ?_ _; intro _; rfl) (by intro x hx; obtain ⟨_, _, rfl⟩ := List.mem_map.1 hx; rfl) rfl (by simp) (by simp; omega) (by simp; omega) ?_)
        intro r' hr'
        rw [← List.map_append, List.length_map]
        have hSep2 := (show Sep w0.heap.size _ ([h1, hn] ++ _ :: _) from hSep1).put (x := .row 6 ((out ++ [(newPush life (f 0) x.now)]).map encPu)) (sv_here hV6 hr')
        have hVn : SV (oneH r' (.row 6 ((out ++ [(newPush life (f 0) x.now)]).map encPu))) 6 (.own r' 6 0 (out ++ [(newPush life (f 0) x.now)]).length) ((out ++ [(newPush life (f 0) x.now)]).map encPu) := .inr ⟨r', by rw [List.length_map], oneH_get _ _⟩
        have hs_H2 := sub_set_free (p := r') (.row 6 ((out ++ [(newPush life (f 0) x.now)]).map encPu)) hs_H1 (hw0 r' (by rcases sv_here (n0 := w0.heap.size) hV6 hr' with h9 | h9; exact h9.2; exact (hSep1.1 _ (by simp)).2 r' h9))
        refine g_step rfl (s_val (v_assign rfl) rfl rfl ?_)
        refine g_nil ?_
        refine g_block_normal ?_
        refine g_next hK13 ?_
        first | refine g_keep [0, 3, 4, 5, 6, 7, 8] [] [] (keep_cons rfl (keep_cons rfl (keep_cons rfl (keep_cons rfl (keep_cons rfl (keep_cons rfl (keep_cons rfl keep_nil))))))) lkeep_nil keep_nil rfl ?_ | refine g_keep [0, 3, 4, 5, 6, 7, 8] [] [] rfl rfl rfl rfl ?_
        refine g_region ?_
        refine g_step rfl (s_val (v_move rfl) rfl rfl ?_)
        refine g_step rfl (s_val (v_add rfl rfl (by omega)) rfl rfl ?_)
        refine g_step rfl (s_val (v_assign rfl) rfl rfl ?_)
        refine g_nil ?_
        first | refine g_keep [0, 3, 4, 5, 6, 7, 8] [] [] (keep_cons rfl (keep_cons rfl (keep_cons rfl (keep_cons rfl (keep_cons rfl (keep_cons rfl (keep_cons rfl keep_nil))))))) lkeep_nil keep_nil rfl ?_ | refine g_keep [0, 3, 4, 5, 6, 7, 8] [] [] rfl rfl rfl rfl ?_
        exact g_round _ (by omega) ⟨k + 1, life, po, ro, pn, rn, upd f 0 (nextF (f 0) x.now), o, .own r' 6 0 (out ++ [(newPush life (f 0) x.now)]).length, a7, out ++ [(newPush life (f 0) x.now)], back, h1, hn, oneH r' _, h7, by omega, rfl, rfl, rfl, rfl, ⟨hX1, hI, hVn, hV7, hSep2, hs_H2, by rw [upd_at]; exact hInv.push hn20 hns hsn, by omega⟩⟩
       · exfalso; (try simp only [decide_eq_true_eq, decide_eq_false_iff_not, Bool.not_eq_true', Bool.not_eq_false', Bool.not_eq_eq_eq_not, Bool.not_true, Bool.not_false, Bool.and_eq_true, Bool.or_eq_true, Bool.or_eq_false_iff, beq_iff_eq, beq_eq_false_iff_ne, ne_eq, Int.not_lt, Int.not_le, Decidable.not_not] at hc64); omega
      · exfalso; (try simp only [decide_eq_true_eq, decide_eq_false_iff_not, Bool.not_eq_true', Bool.not_eq_false', Bool.not_eq_eq_eq_not, Bool.not_true, Bool.not_false, Bool.and_eq_true, Bool.or_eq_true, Bool.or_eq_false_iff, beq_iff_eq, beq_eq_false_iff_ne, ne_eq, Int.not_lt, Int.not_le, Decidable.not_not] at hg61); simp at hg61
    ·
     try simp only [decide_eq_true_eq, decide_eq_false_iff_not, Bool.not_eq_true', Bool.not_eq_false', Bool.not_eq_eq_eq_not, Bool.not_true, Bool.not_false, Bool.and_eq_true, Bool.or_eq_true, Bool.or_eq_false_iff, beq_iff_eq, beq_eq_false_iff_ne, ne_eq, Int.not_lt, Int.not_le, Decidable.not_not] at hc44
     refine g_seq (fun K24 hK24 => ?_)
     refine g_region ?_
     refine g_step rfl (s_fieldAddr ty96 fo96_0 ty3 rfl rfl ?_)
     refine g_step rfl (s_val (v_loadl ty3 rfl rfl rfl rfl) rfl rfl ?_)
     refine g_step rfl (s_val (v_eql rfl rfl) rfl rfl ?_)
     refine g_step rfl (s_val (v_move rfl) rfl rfl ?_)
     refine g_split 79 rfl (fun hg79 => ?_) (fun hg79 => ?_)
     ·
      try simp only [decide_eq_true_eq, decide_eq_false_iff_not, Bool.not_eq_true', Bool.not_eq_false', Bool.not_eq_eq_eq_not, Bool.not_true, Bool.not_false, Bool.and_eq_true, Bool.or_eq_true, Bool.or_eq_false_iff, beq_iff_eq, beq_eq_false_iff_ne, ne_eq, Int.not_lt, Int.not_le, Decidable.not_not] at hg79
      refine g_step_yes (j := 3) (t := 79) rfl rfl rfl rfl (s_fieldAddr ty96 fo96_1 ty3 rfl rfl ?_)
      refine g_step_yes (j := 3) (t := 79) rfl rfl rfl rfl (s_val (v_loadl ty3 rfl rfl rfl rfl) rfl rfl ?_)
      refine g_step_yes (j := 3) (t := 79) rfl rfl rfl rfl (s_val (v_geq rfl rfl) rfl rfl ?_)
      refine g_step rfl (s_val (v_pick_t rfl rfl) rfl rfl ?_)
      refine g_step rfl (s_val (v_move rfl) rfl rfl ?_)
      refine g_split 84 rfl (fun hg84 => ?_) (fun hg84 => ?_)
      ·
       try simp only [decide_eq_true_eq, decide_eq_false_iff_not, Bool.not_eq_true', Bool.not_eq_false', Bool.not_eq_eq_eq_not, Bool.not_true, Bool.not_false, Bool.and_eq_true, Bool.or_eq_true, Bool.or_eq_false_iff, beq_iff_eq, beq_eq_false_iff_ne, ne_eq, Int.not_lt, Int.not_le, Decidable.not_not] at hg84
       refine g_step_yes (j := 8) (t := 84) rfl rfl rfl rfl (s_fieldAddr ty96 fo96_1 ty3 rfl rfl ?_)
       refine g_step_yes (j := 8) (t := 84) rfl rfl rfl rfl (s_val (v_loadl ty3 rfl rfl rfl rfl) rfl rfl ?_)
       refine g_step_yes (j := 8) (t := 84) rfl rfl rfl rfl (s_val (v_move rfl) rfl rfl ?_)
       refine g_step_yes (j := 8) (t := 84) rfl rfl rfl rfl (s_val (v_len ty93 rfl hv6.view (show _ = out.length by rw [List.length_map])) rfl rfl ?_)
       refine g_step_yes (j := 8) (t := 84) rfl rfl rfl rfl (s_val (v_lss rfl rfl) rfl rfl ?_)
       refine g_step rfl (s_val (v_pick_t rfl rfl) rfl rfl ?_)
       refine g_nil ?_
       refine g_next hK24 ?_
       first | refine g_keep [0, 3, 4, 5, 6, 7, 8, 90] [9] [9] (keep_cons rfl (keep_cons rfl (keep_cons rfl (keep_cons rfl (keep_cons rfl (keep_cons rfl (keep_cons rfl (keep_cons rfl keep_nil)))))))) (lkeep_cons rfl lkeep_nil) (keep_cons rfl keep_nil) rfl ?_ | refine g_keep [0, 3, 4, 5, 6, 7, 8, 90] [9] [9] rfl rfl rfl rfl ?_
       refine g_cond rfl (fun hc90 => ?_) (fun hc90 => ?_)
       ·
        try simp only [decide_eq_true_eq, decide_eq_false_iff_not, Bool.not_eq_true', Bool.not_eq_false', Bool.not_eq_eq_eq_not, Bool.not_true, Bool.not_false, Bool.and_eq_true, Bool.or_eq_true, Bool.or_eq_false_iff, beq_iff_eq, beq_eq_false_iff_ne, ne_eq, Int.not_lt, Int.not_le, Decidable.not_not] at hc90
        obtain ⟨j, hj⟩ := Int.eq_ofNat_of_zero_le (show 0 ≤ x.n by omega)
        obtain ⟨q, hq⟩ := get_some (l := out) (k := j) (by omega)
        have hqm := mem_get hq
        have hqo := hInv.outs q hqm
        have hqu := hqo.und
        have hqn := hqo.nowk
        obtain ⟨hou, hod, hov⟩ := hInv.over hqm
        obtain ⟨G0, hG0⟩ : ∃ G0, G0 = G := ⟨_, rfl⟩
        rw [← hG0] at hv6 hv7 hso hsi hSep hs_H ⊢
        refine g_seq (fun K25 hK25 => ?_)
        refine g_region ?_
        refine g_step rfl (s_val (v_move rfl) rfl rfl ?_)
        refine g_step rfl (s_fieldAddr ty96 fo96_1 ty3 rfl rfl ?_)
        refine g_step rfl (s_val (v_loadl ty3 rfl rfl rfl rfl) rfl rfl ?_)
        refine g_step rfl (s_val (v_indexAddr ty93 ty99 rfl rfl hv6.view hj (map_get hq) rfl) rfl rfl ?_)
        refine g_step rfl (s_val (by first | exact v_load_elt ty99 rfl rfl hv6.view (map_get hq) rfl rfl | exact v_load_box_all ty99 rfl rfl (by assumption) rfl rfl | exact v_load_part (cs := [_, _, _, _, _, _]) ty99 rfl rfl hv6.view (map_get hq) rfl rfl rfl | exact v_load_box_part (cs := [_, _, _, _, _, _]) ty99 rfl rfl (by assumption) rfl rfl rfl) rfl rfl ?_)
        refine g_step rfl (s_alloc (av := (.agg [(.int .i64 0), (.int .i64 0), (.int .i64 0), .nil0, .nil0, .nil0])) ty99 rfl rfl rfl rfl ?_)
        refine g_step rfl (s_store_all ty99 rfl rfl rfl rfl rfl rfl ?_)
        refine g_nil ?_
        refine g_next hK25 ?_
        refine g_seq (fun K26 hK26 => ?_)
        refine g_region ?_
        refine g_step rfl (s_val (v_assign rfl) rfl rfl ?_)
        refine g_nil ?_
        refine g_next hK26 ?_
        refine g_seq (fun K27 hK27 => ?_)
        refine g_region ?_
        refine g_sub 16 rfl ASub.nil0 ?_
        refine g_step rfl (s_val (v_assign rfl) rfl rfl ?_)
        refine g_nil ?_
        refine g_next hK27 ?_
        refine g_cut (fun env L B G => ∃ (okf : Bool) (lst : List Rc), env = [(0, .imm (l.map encPl)), (3, .int .i64 life), (4, .box po 0), (5, .box pn 0), (6, a6), (7, a7), (8, .int .i64 (k : Int)), (16, (encRs lst)), (17, .bool okf)] ∧ L = [(15, 15, 0)] ∧ B = [(15, (encPu q))] ∧ G0 = G ∧ (okf = true → lst = q.under)) ?_ (fun env L B G hI => ?_)
        ·
         refine g_seq (fun K28 hK28 => ?_)
         refine g_region ?_
         refine g_step rfl (s_fieldAddr ty99 fo99_2 ty3 rfl rfl ?_)
         refine g_step rfl (s_val (v_loadl ty3 rfl rfl rfl rfl) rfl rfl ?_)
         refine g_step rfl (s_val (v_gtr rfl rfl) rfl rfl ?_)
         refine g_nil ?_
         refine g_next hK28 ?_
         refine g_cond rfl (fun hc98 => ?_) (fun hc98 => ?_)
         ·
          try simp only [decide_eq_true_eq, decide_eq_false_iff_not, Bool.not_eq_true', Bool.not_eq_false', Bool.not_eq_eq_eq_not, Bool.not_true, Bool.not_false, Bool.and_eq_true, Bool.or_eq_true, Bool.or_eq_false_iff, beq_iff_eq, beq_eq_false_iff_ne, ne_eq, Int.not_lt, Int.not_le, Decidable.not_not] at hc98
          have hfound := fun l h => hInv.found hqm (show 0 < q.base by omega) (l := l) h
          refine g_seq (fun K29 hK29 => ?_)
          refine g_region ?_
          refine g_step rfl (s_val (v_move rfl) rfl rfl ?_)
          refine g_step rfl (s_fieldAddr ty99 fo99_0 ty3 rfl rfl ?_)
          refine g_step rfl (s_val (v_loadl ty3 rfl rfl rfl rfl) rfl rfl ?_)
          refine g_step rfl (s_fieldAddr ty99 fo99_2 ty3 rfl rfl ?_)
          refine g_step rfl (s_val (v_loadl ty3 rfl rfl rfl rfl) rfl rfl ?_)
          refine g_step rfl (s_callp rfl rfl rfl (iFind_ok hn pn rn o 0 q.life q.base _ hI hsi (fun g hg => (hInv.rows g hg).1)) ?_)
          rintro _ rfl
          refine g_step rfl (s_val (v_move rfl) rfl rfl ?_)
          refine g_step rfl (s_val (v_extract rfl rfl) rfl rfl ?_)
          refine g_step rfl (s_val (v_extract rfl rfl) rfl rfl ?_)
          refine g_step rfl (s_val (v_assign rfl) rfl rfl ?_)
          refine g_step rfl (s_val (v_assign rfl) rfl rfl ?_)
          refine g_nil ?_
          refine g_next hK29 ?_
          refine g_seq (fun K30 hK30 => ?_)
          refine g_region ?_
          rcases hgf : gFind (o 0) q.life q.base with _ | lst
          ·
           refine g_step rfl (s_val (v_move rfl) rfl rfl ?_)
           refine g_step rfl (s_val (v_move rfl) rfl rfl ?_)
           refine g_split 109 rfl (fun hg109 => ?_) (fun hg109 => ?_)
           · exfalso; (try simp only [decide_eq_true_eq, decide_eq_false_iff_not, Bool.not_eq_true', Bool.not_eq_false', Bool.not_eq_eq_eq_not, Bool.not_true, Bool.not_false, Bool.and_eq_true, Bool.or_eq_true, Bool.or_eq_false_iff, beq_iff_eq, beq_eq_false_iff_ne, ne_eq, Int.not_lt, Int.not_le, Decidable.not_not] at hg109); simp at hg109
           ·
            try simp only [decide_eq_true_eq, decide_eq_false_iff_not, Bool.not_eq_true', Bool.not_eq_false', Bool.not_eq_eq_eq_not, Bool.not_true, Bool.not_false, Bool.and_eq_true, Bool.or_eq_true, Bool.or_eq_false_iff, beq_iff_eq, beq_eq_false_iff_ne, ne_eq, Int.not_lt, Int.not_le, Decidable.not_not] at hg109
            refine g_step_no (j := 1) (t := 109) rfl rfl rfl rfl rfl rfl rfl ?_
            refine g_step_no (j := 1) (t := 109) rfl rfl rfl rfl rfl rfl rfl ?_
            refine g_step_no (j := 1) (t := 109) rfl rfl rfl rfl rfl rfl rfl ?_
            refine g_step_no (j := 1) (t := 109) rfl rfl rfl rfl rfl rfl rfl ?_
            refine g_step_no (j := 1) (t := 109) rfl rfl rfl rfl rfl rfl rfl ?_
            refine g_step rfl (s_val (v_pick_f rfl rfl) rfl rfl ?_)
            refine g_nil ?_
            refine g_next hK30 ?_
            first | refine g_keep [0, 3, 4, 5, 6, 7, 8, 16, 17, 115] [15] [15] (keep_cons rfl (keep_cons rfl (keep_cons rfl (keep_cons rfl (keep_cons rfl (keep_cons rfl (keep_cons rfl (keep_cons rfl (keep_cons rfl (keep_cons rfl keep_nil)))))))))) (lkeep_cons rfl lkeep_nil) (keep_cons rfl keep_nil) rfl ?_ | refine g_keep [0, 3, 4, 5, 6, 7, 8, 16, 17, 115] [15] [15] rfl rfl rfl rfl ?_
            refine g_cond rfl (fun h => by cases h) (fun _ => ?_)
            refine g_skip ?_
            first | refine g_keep [0, 3, 4, 5, 6, 7, 8, 16, 17] [15] [15] (keep_cons rfl (keep_cons rfl (keep_cons rfl (keep_cons rfl (keep_cons rfl (keep_cons rfl (keep_cons rfl (keep_cons rfl (keep_cons rfl keep_nil))))))))) (lkeep_cons rfl lkeep_nil) (keep_cons rfl keep_nil) rfl ?_ | refine g_keep [0, 3, 4, 5, 6, 7, 8, 16, 17] [15] [15] rfl rfl rfl rfl ?_
            first | exact g_has ⟨true, q.under, rfl, rfl, rfl, rfl, fun _ => rfl⟩ | exact g_has ⟨true, [], rfl, rfl, rfl, rfl, fun _ => (hqo.b00 (by have := hqo.bas; omega)).symm⟩ | exact g_has ⟨false, _, rfl, rfl, rfl, rfl, fun h => by cases h⟩
          ·
           have hlst := hfound lst hgf
           subst hlst
           refine g_step rfl (s_val (v_move rfl) rfl rfl ?_)
           refine g_step rfl (s_val (v_move rfl) rfl rfl ?_)
           refine g_split 109 rfl (fun hg109 => ?_) (fun hg109 => ?_)
           ·
            try simp only [decide_eq_true_eq, decide_eq_false_iff_not, Bool.not_eq_true', Bool.not_eq_false', Bool.not_eq_eq_eq_not, Bool.not_true, Bool.not_false, Bool.and_eq_true, Bool.or_eq_true, Bool.or_eq_false_iff, beq_iff_eq, beq_eq_false_iff_ne, ne_eq, Int.not_lt, Int.not_le, Decidable.not_not] at hg109
            refine g_step_yes (j := 1) (t := 109) rfl rfl rfl rfl (s_val (v_move rfl) rfl rfl ?_)
            refine g_step_yes (j := 1) (t := 109) rfl rfl rfl rfl (s_fieldAddr ty99 fo99_3 ty64 rfl rfl ?_)
            refine g_step_yes (j := 1) (t := 109) rfl rfl rfl rfl (s_val (v_loadl ty64 rfl rfl rfl rfl) rfl rfl ?_)
            refine g_step_yes (j := 1) (t := 109) rfl rfl rfl rfl (s_callp rfl rfl rfl (allAlike_ok q.under q.under _ _ _ rfl rfl (Nat.le_trans hqu.1 (by decide)) hqu.2.1) ?_)
            rintro _ rfl
            rw [decide_eq_true rfl]
            refine g_step_yes (j := 1) (t := 109) rfl rfl rfl rfl (s_val (v_not rfl) rfl rfl ?_)
            refine g_step rfl (s_val (v_pick_t rfl rfl) rfl rfl ?_)
            refine g_nil ?_
            refine g_next hK30 ?_
            first | refine g_keep [0, 3, 4, 5, 6, 7, 8, 16, 17, 115] [15] [15] (keep_cons rfl (keep_cons rfl (keep_cons rfl (keep_cons rfl (keep_cons rfl (keep_cons rfl (keep_cons rfl (keep_cons rfl (keep_cons rfl (keep_cons rfl keep_nil)))))))))) (lkeep_cons rfl lkeep_nil) (keep_cons rfl keep_nil) rfl ?_ | refine g_keep [0, 3, 4, 5, 6, 7, 8, 16, 17, 115] [15] [15] rfl rfl rfl rfl ?_
            refine g_cond rfl (fun hc115 => ?_) (fun hc115 => ?_)
            · exfalso; (try simp only [decide_eq_true_eq, decide_eq_false_iff_not, Bool.not_eq_true', Bool.not_eq_false', Bool.not_eq_eq_eq_not, Bool.not_true, Bool.not_false, Bool.and_eq_true, Bool.or_eq_true, Bool.or_eq_false_iff, beq_iff_eq, beq_eq_false_iff_ne, ne_eq, Int.not_lt, Int.not_le, Decidable.not_not] at hc115); simp at hc115
            ·
             try simp only [decide_eq_true_eq, decide_eq_false_iff_not, Bool.not_eq_true', Bool.not_eq_false', Bool.not_eq_eq_eq_not, Bool.not_true, Bool.not_false, Bool.and_eq_true, Bool.or_eq_true, Bool.or_eq_false_iff, beq_iff_eq, beq_eq_false_iff_ne, ne_eq, Int.not_lt, Int.not_le, Decidable.not_not] at hc115
             refine g_skip ?_
             first | refine g_keep [0, 3, 4, 5, 6, 7, 8, 16, 17] [15] [15] (keep_cons rfl (keep_cons rfl (keep_cons rfl (keep_cons rfl (keep_cons rfl (keep_cons rfl (keep_cons rfl (keep_cons rfl (keep_cons rfl keep_nil))))))))) (lkeep_cons rfl lkeep_nil) (keep_cons rfl keep_nil) rfl ?_ | refine g_keep [0, 3, 4, 5, 6, 7, 8, 16, 17] [15] [15] rfl rfl rfl rfl ?_
             first | exact g_has ⟨true, q.under, rfl, rfl, rfl, rfl, fun _ => rfl⟩ | exact g_has ⟨true, [], rfl, rfl, rfl, rfl, fun _ => (hqo.b00 (by have := hqo.bas; omega)).symm⟩ | exact g_has ⟨false, _, rfl, rfl, rfl, rfl, fun h => by cases h⟩
           · exfalso; (try simp only [decide_eq_true_eq, decide_eq_false_iff_not, Bool.not_eq_true', Bool.not_eq_false', Bool.not_eq_eq_eq_not, Bool.not_true, Bool.not_false, Bool.and_eq_true, Bool.or_eq_true, Bool.or_eq_false_iff, beq_iff_eq, beq_eq_false_iff_ne, ne_eq, Int.not_lt, Int.not_le, Decidable.not_not] at hg109); simp at hg109
         ·
          try simp only [decide_eq_true_eq, decide_eq_false_iff_not, Bool.not_eq_true', Bool.not_eq_false', Bool.not_eq_eq_eq_not, Bool.not_true, Bool.not_false, Bool.and_eq_true, Bool.or_eq_true, Bool.or_eq_false_iff, beq_iff_eq, beq_eq_false_iff_ne, ne_eq, Int.not_lt, Int.not_le, Decidable.not_not] at hc98
          refine g_skip ?_
          first | refine g_keep [0, 3, 4, 5, 6, 7, 8, 16, 17] [15] [15] (keep_cons rfl (keep_cons rfl (keep_cons rfl (keep_cons rfl (keep_cons rfl (keep_cons rfl (keep_cons rfl (keep_cons rfl (keep_cons rfl keep_nil))))))))) (lkeep_cons rfl lkeep_nil) (keep_cons rfl keep_nil) rfl ?_ | refine g_keep [0, 3, 4, 5, 6, 7, 8, 16, 17] [15] [15] rfl rfl rfl rfl ?_
          first | exact g_has ⟨true, q.under, rfl, rfl, rfl, rfl, fun _ => rfl⟩ | exact g_has ⟨true, [], rfl, rfl, rfl, rfl, fun _ => (hqo.b00 (by have := hqo.bas; omega)).symm⟩ | exact g_has ⟨false, _, rfl, rfl, rfl, rfl, fun h => by cases h⟩
        ·
         obtain ⟨okf, lst, rfl, rfl, rfl, rfl, hok⟩ := hI
         refine g_seq (fun K31 hK31 => ?_)
         refine g_seq (fun K32 hK32 => ?_)
         refine g_region ?_
         refine g_step rfl (s_val (v_move rfl) rfl rfl ?_)
         refine g_nil ?_
         refine g_next hK32 ?_
         refine g_cond rfl (fun hc116 => ?_) (fun hc116 => ?_)
         ·
          try simp only [decide_eq_true_eq, decide_eq_false_iff_not, Bool.not_eq_true', Bool.not_eq_false', Bool.not_eq_eq_eq_not, Bool.not_true, Bool.not_false, Bool.and_eq_true, Bool.or_eq_true, Bool.or_eq_false_iff, beq_iff_eq, beq_eq_false_iff_ne, ne_eq, Int.not_lt, Int.not_le, Decidable.not_not] at hc116
          obtain rfl : okf = true := hc116
          obtain rfl := hok rfl
          refine g_seq (fun K33 hK33 => ?_)
          refine g_region ?_
          refine g_step rfl (s_val (v_move rfl) rfl rfl ?_)
          refine g_step rfl (s_fieldAddr ty99 fo99_4 ty64 rfl rfl ?_)
          refine g_step rfl (s_val (v_loadl ty64 rfl rfl rfl rfl) rfl rfl ?_)
          refine g_step rfl (s_callp rfl rfl rfl (dover_ok q.under q.d _ (Nat.le_trans hqu.1 (by decide)) (by rw [hqo.dd]; have h8 := diff_len q.under q.now; have h9 : q.under.length ≤ 20 := hqu.1; have h7 : q.now.length ≤ 20 := hqn.1; omega) hqu.2.1 (by rw [hqo.dd]; exact diff_small hqu.2.1 hqn.2.1)) ?_)
          rintro _ rfl
          rw [hou, hod, Bool.and_self, if_pos rfl, hov]
          refine g_step rfl (s_val (v_move rfl) rfl rfl ?_)
          refine g_step rfl (s_val (v_extract rfl rfl) rfl rfl ?_)
          refine g_step rfl (s_val (v_extract rfl rfl) rfl rfl ?_)
          refine g_step rfl (s_val (v_assign rfl) rfl rfl ?_)
          refine g_step rfl (s_val (v_assign rfl) rfl rfl ?_)
          refine g_nil ?_
          refine g_next hK33 ?_
          refine g_seq (fun K34 hK34 => ?_)
          refine g_seq (fun K35 hK35 => ?_)
          refine g_region ?_
          refine g_step rfl (s_val (v_move rfl) rfl rfl ?_)
          refine g_step rfl (s_val (v_not rfl) rfl rfl ?_)
          refine g_step rfl (s_val (v_move rfl) rfl rfl ?_)
          refine g_split 126 rfl (fun hg126 => ?_) (fun hg126 => ?_)
          · exfalso; (try simp only [decide_eq_true_eq, decide_eq_false_iff_not, Bool.not_eq_true', Bool.not_eq_false', Bool.not_eq_eq_eq_not, Bool.not_true, Bool.not_false, Bool.and_eq_true, Bool.or_eq_true, Bool.or_eq_false_iff, beq_iff_eq, beq_eq_false_iff_ne, ne_eq, Int.not_lt, Int.not_le, Decidable.not_not] at hg126); simp at hg126
          ·
           try simp only [decide_eq_true_eq, decide_eq_false_iff_not, Bool.not_eq_true', Bool.not_eq_false', Bool.not_eq_eq_eq_not, Bool.not_true, Bool.not_false, Bool.and_eq_true, Bool.or_eq_true, Bool.or_eq_false_iff, beq_iff_eq, beq_eq_false_iff_ne, ne_eq, Int.not_lt, Int.not_le, Decidable.not_not] at hg126
           refine g_step_yes (j := 2) (t := 126) rfl rfl rfl rfl (s_val (v_move rfl) rfl rfl ?_)
           refine g_step_yes (j := 2) (t := 126) rfl rfl rfl rfl (s_fieldAddr ty99 fo99_5 ty64 rfl rfl ?_)
           refine g_step_yes (j := 2) (t := 126) rfl rfl rfl rfl (s_val (v_loadl ty64 rfl rfl rfl rfl) rfl rfl ?_)
           refine g_step_yes (j := 2) (t := 126) rfl rfl rfl rfl (s_callp rfl rfl rfl (allAlike_ok q.now q.now _ _ _ rfl rfl (Nat.le_trans hqn.1 (by decide)) hqn.2.1) ?_)
           rintro _ rfl
           rw [decide_eq_true rfl]
           refine g_step_yes (j := 2) (t := 126) rfl rfl rfl rfl (s_val (v_not rfl) rfl rfl ?_)
           refine g_step rfl (s_val (v_pick_f rfl rfl) rfl rfl ?_)
           refine g_nil ?_
           refine g_next hK35 ?_
           first | refine g_keep [0, 3, 4, 5, 6, 7, 8, 17, 18, 132] [15] [15] (keep_cons rfl (keep_cons rfl (keep_cons rfl (keep_cons rfl (keep_cons rfl (keep_cons rfl (keep_cons rfl (keep_cons rfl (keep_cons rfl (keep_cons rfl keep_nil)))))))))) (lkeep_cons rfl lkeep_nil) (keep_cons rfl keep_nil) rfl ?_ | refine g_keep [0, 3, 4, 5, 6, 7, 8, 17, 18, 132] [15] [15] rfl rfl rfl rfl ?_
           refine g_cond rfl (fun hc132 => ?_) (fun hc132 => ?_)
           · exfalso; (try simp only [decide_eq_true_eq, decide_eq_false_iff_not, Bool.not_eq_true', Bool.not_eq_false', Bool.not_eq_eq_eq_not, Bool.not_true, Bool.not_false, Bool.and_eq_true, Bool.or_eq_true, Bool.or_eq_false_iff, beq_iff_eq, beq_eq_false_iff_ne, ne_eq, Int.not_lt, Int.not_le, Decidable.not_not] at hc132); simp at hc132
           ·
            try simp only [decide_eq_true_eq, decide_eq_false_iff_not, Bool.not_eq_true', Bool.not_eq_false', Bool.not_eq_eq_eq_not, Bool.not_true, Bool.not_false, Bool.and_eq_true, Bool.or_eq_true, Bool.or_eq_false_iff, beq_iff_eq, beq_eq_false_iff_ne, ne_eq, Int.not_lt, Int.not_le, Decidable.not_not] at hc132
            refine g_skip ?_
            refine g_next hK34 ?_
            refine g_region ?_
            refine g_step rfl (s_val (v_move rfl) rfl rfl ?_)
            refine g_step rfl (s_fieldAddr ty99 fo99_0 ty3 rfl rfl ?_)
            refine g_step rfl (s_val (v_loadl ty3 rfl rfl rfl rfl) rfl rfl ?_)
            refine g_step rfl (s_fieldAddr ty99 fo99_1 ty3 rfl rfl ?_)
            refine g_step rfl (s_val (v_loadl ty3 rfl rfl rfl rfl) rfl rfl ?_)
            refine g_step rfl (s_fieldAddr ty99 fo99_2 ty3 rfl rfl ?_)
            refine g_step rfl (s_val (v_loadl ty3 rfl rfl rfl rfl) rfl rfl ?_)
            refine g_step rfl (s_val (v_move rfl) rfl rfl ?_)
            refine g_step rfl (s_call rfl rfl rfl (iKeep_ok hn pn rn o 0 q.life q.epoch q.base q.now (Nat.le_trans hqn.1 (by decide)) hqn.2.1 _ hI hsi (fun g hg => (hInv.rows g hg).1)) (fun b hb => .inr (hai b hb)) ?_)
            rintro n5 v5 effs5 hn5 hdom5 ⟨hv5, h1, hE5, hX1⟩ hok5
            skip
            have hSep1 : Sep w0.heap.size _ [ho, h1, h6, h7] := (show Sep w0.heap.size _ ([ho] ++ _ :: _) from hSep).turn hE5 hn5 hdom5
            have hs_H1 := hE5.frame hdom5 hs_H (fun b hb => hw0 b (hai b hb))
            generalize hG1 : setAll G0 effs5 = G1 at hSep1 hs_H1 ⊢
            refine g_nil ?_
            refine g_next hK31 ?_
            refine g_region ?_
            refine g_step rfl (s_val (v_move rfl) rfl rfl ?_)
            refine g_step rfl (s_fieldAddr ty99 fo99_0 ty3 rfl rfl ?_)
            refine g_step rfl (s_val (v_loadl ty3 rfl rfl rfl rfl) rfl rfl ?_)
            refine g_step rfl (s_fieldAddr ty99 fo99_1 ty3 rfl rfl ?_)
            refine g_step rfl (s_val (v_loadl ty3 rfl rfl rfl rfl) rfl rfl ?_)
            refine g_step rfl (s_val (v_move rfl) rfl rfl ?_)
            refine g_step rfl (s_val (v_build (vs := [(0, _), (1, _), (2, _)]) (zs := [(.int .i64 0), (.int .i64 0), (.bool false)]) (cells := [_, _, _]) ty101 pl101 rfl rfl rfl) rfl rfl ?_)
            refine g_step rfl (s_lit ty94 ty101 rfl rfl rfl rfl rfl rfl rfl ?_)
            first
            | (refine g_step rfl (s_appendV (l := (back.map encAn)) (m := ([(⟨q.life, q.epoch, true⟩ : Ans)].map encAn)) ty94 ty101 rfl rfl (by have h9 := (show Sep w0.heap.size _ ([ho, h1, h6] ++ _ :: _) from hSep1).sv hV7; exact h9) rfl rfl (by refine Even.map _ ?_ _; intro _; rfl) (by intro x hx; obtain ⟨_, _, rfl⟩ := List.mem_map.1 hx; rfl) rfl (by simp) (by simp; omega) (by simp; omega) ?_); intro r' hr'; rw [← List.map_append, List.length_map]; have hSep2 := (show Sep w0.heap.size _ ([ho, h1, h6] ++ _ :: _) from hSep1).put (x := .row 3 ((back ++ [(⟨q.life, q.epoch, true⟩ : Ans)]).map encAn)) (sv_here hV7 hr'); have hVn : SV (oneH r' (.row 3 ((back ++ [(⟨q.life, q.epoch, true⟩ : Ans)]).map encAn))) 3 (.own r' 3 0 (back ++ [(⟨q.life, q.epoch, true⟩ : Ans)]).length) ((back ++ [(⟨q.life, q.epoch, true⟩ : Ans)]).map encAn) := .inr ⟨r', by rw [List.length_map], oneH_get _ _⟩; have hs_H2 := sub_set_free (p := r') (.row 3 ((back ++ [(⟨q.life, q.epoch, true⟩ : Ans)]).map encAn)) hs_H1 (hw0 r' (by rcases sv_here (n0 := w0.heap.size) hV7 hr' with h9 | h9; exact h9.2; exact (hSep1.1 _ (by simp)).2 r' h9)))
            | (refine g_step rfl (s_appendV (l := (back.map encAn)) (m := ([(⟨q.life, q.epoch, false⟩ : Ans)].map encAn)) ty94 ty101 rfl rfl (by have h9 := (show Sep w0.heap.size _ ([ho, hn, h6] ++ _ :: _) from hSep).sv hV7; exact h9) rfl rfl (by refine Even.map _ ?_ _; intro _; rfl) (by intro x hx; obtain ⟨_, _, rfl⟩ := List.mem_map.1 hx; rfl) rfl (by simp) (by simp; omega) (by simp; omega) ?_); intro r' hr'; rw [← List.map_append, List.length_map]; have hSep2 := (show Sep w0.heap.size _ ([ho, hn, h6] ++ _ :: _) from hSep).put (x := .row 3 ((back ++ [(⟨q.life, q.epoch, false⟩ : Ans)]).map encAn)) (sv_here hV7 hr'); have hVn : SV (oneH r' (.row 3 ((back ++ [(⟨q.life, q.epoch, false⟩ : Ans)]).map encAn))) 3 (.own r' 3 0 (back ++ [(⟨q.life, q.epoch, false⟩ : Ans)]).length) ((back ++ [(⟨q.life, q.epoch, false⟩ : Ans)]).map encAn) := .inr ⟨r', by rw [List.length_map], oneH_get _ _⟩; have hs_H2 := sub_set_free (p := r') (.row 3 ((back ++ [(⟨q.life, q.epoch, false⟩ : Ans)]).map encAn)) hs_H (hw0 r' (by rcases sv_here (n0 := w0.heap.size) hV7 hr' with h9 | h9; exact h9.2; exact (hSep.1 _ (by simp)).2 r' h9)))
            ·
             refine g_step rfl (s_val (v_assign rfl) rfl rfl ?_)
             refine g_nil ?_
             refine g_block_normal ?_
             refine g_next hK13 ?_
             refine g_region ?_
             refine g_step rfl (s_val (v_move rfl) rfl rfl ?_)
             refine g_step rfl (s_val (v_add rfl rfl (by omega)) rfl rfl ?_)
             refine g_step rfl (s_val (v_assign rfl) rfl rfl ?_)
             refine g_nil ?_
             first | refine g_keep [0, 3, 4, 5, 6, 7, 8] [] [] (keep_cons rfl (keep_cons rfl (keep_cons rfl (keep_cons rfl (keep_cons rfl (keep_cons rfl (keep_cons rfl keep_nil))))))) lkeep_nil keep_nil rfl ?_ | refine g_keep [0, 3, 4, 5, 6, 7, 8] [] [] rfl rfl rfl rfl ?_
             exact g_round _ (by omega) ⟨k + 1, life, po, ro, pn, rn, f, upd o 0 (keepF (o 0) q.life q.epoch q.base q.now), a6, .own r' 3 0 (back ++ [(⟨q.life, q.epoch, true⟩ : Ans)]).length, out, back ++ [(⟨q.life, q.epoch, true⟩ : Ans)], ho, h1, h6, oneH r' _, by omega, rfl, rfl, rfl, rfl, ⟨hO, hX1, hV6, hVn, hSep2, hs_H2, by rw [upd_at]; exact (hInv.keep hqm).mono (by omega), by simp; omega⟩⟩
         ·
          try simp only [decide_eq_true_eq, decide_eq_false_iff_not, Bool.not_eq_true', Bool.not_eq_false', Bool.not_eq_eq_eq_not, Bool.not_true, Bool.not_false, Bool.and_eq_true, Bool.or_eq_true, Bool.or_eq_false_iff, beq_iff_eq, beq_eq_false_iff_ne, ne_eq, Int.not_lt, Int.not_le, Decidable.not_not] at hc116
          obtain rfl : okf = false := by simpa using hc116
          refine g_skip ?_
          refine g_next hK31 ?_
          refine g_region ?_
          refine g_step rfl (s_val (v_move rfl) rfl rfl ?_)
          refine g_step rfl (s_fieldAddr ty99 fo99_0 ty3 rfl rfl ?_)
          refine g_step rfl (s_val (v_loadl ty3 rfl rfl rfl rfl) rfl rfl ?_)
          refine g_step rfl (s_fieldAddr ty99 fo99_1 ty3 rfl rfl ?_)
          refine g_step rfl (s_val (v_loadl ty3 rfl rfl rfl rfl) rfl rfl ?_)
          refine g_step rfl (s_val (v_move rfl) rfl rfl ?_)
          refine g_step rfl (s_val (v_build (vs := [(0, _), (1, _), (2, _)]) (zs := [(.int .i64 0), (.int .i64 0), (.bool false)]) (cells := [_, _, _]) ty101 pl101 rfl rfl rfl) rfl rfl ?_)
          refine g_step rfl (s_lit ty94 ty101 rfl rfl rfl rfl rfl rfl rfl ?_)
          first
          | (refine g_step rfl (s_appendV (l := (back.map encAn)) (m := ([(⟨q.life, q.epoch, true⟩ : Ans)].map encAn)) ty94 ty101 rfl rfl (by have h9 := (show Sep w0.heap.size _ ([ho, h1, h6] ++ _ :: _) from hSep1).sv hV7; exact h9) rfl rfl (by refine Even.map _ ?_ _; intro _; rfl) (by intro x hx; obtain ⟨_, _, rfl⟩ := List.mem_map.1 hx; rfl) rfl (by simp) (by simp; omega) (by simp; omega) ?_); intro r' hr'; rw [← List.map_append, List.length_map]; have hSep2 := (show Sep w0.heap.size _ ([ho, h1, h6] ++ _ :: _) from hSep1).put (x := .row 3 ((back ++ [(⟨q.life, q.epoch, true⟩ : Ans)]).map encAn)) (sv_here hV7 hr'); have hVn : SV (oneH r' (.row 3 ((back ++ [(⟨q.life, q.epoch, true⟩ : Ans)]).map encAn))) 3 (.own r' 3 0 (back ++ [(⟨q.life, q.epoch, true⟩ : Ans)]).length) ((back ++ [(⟨q.life, q.epoch, true⟩ : Ans)]).map encAn) := .inr ⟨r', by rw [List.length_map], oneH_get _ _⟩; have hs_H2 := sub_set_free (p := r') (.row 3 ((back ++ [(⟨q.life, q.epoch, true⟩ : Ans)]).map encAn)) hs_H1 (hw0 r' (by rcases sv_here (n0 := w0.heap.size) hV7 hr' with h9 | h9; exact h9.2; exact (hSep1.1 _ (by simp)).2 r' h9)))
          | (refine g_step rfl (s_appendV (l := (back.map encAn)) (m := ([(⟨q.life, q.epoch, false⟩ : Ans)].map encAn)) ty94 ty101 rfl rfl (by have h9 := (show Sep w0.heap.size _ ([ho, hn, h6] ++ _ :: _) from hSep).sv hV7; exact h9) rfl rfl (by refine Even.map _ ?_ _; intro _; rfl) (by intro x hx; obtain ⟨_, _, rfl⟩ := List.mem_map.1 hx; rfl) rfl (by simp) (by simp; omega) (by simp; omega) ?_); intro r' hr'; rw [← List.map_append, List.length_map]; have hSep2 := (show Sep w0.heap.size _ ([ho, hn, h6] ++ _ :: _) from hSep).put (x := .row 3 ((back ++ [(⟨q.life, q.epoch, false⟩ : Ans)]).map encAn)) (sv_here hV7 hr'); have hVn : SV (oneH r' (.row 3 ((back ++ [(⟨q.life, q.epoch, false⟩ : Ans)]).map encAn))) 3 (.own r' 3 0 (back ++ [(⟨q.life, q.epoch, false⟩ : Ans)]).length) ((back ++ [(⟨q.life, q.epoch, false⟩ : Ans)]).map encAn) := .inr ⟨r', by rw [List.length_map], oneH_get _ _⟩; have hs_H2 := sub_set_free (p := r') (.row 3 ((back ++ [(⟨q.life, q.epoch, false⟩ : Ans)]).map encAn)) hs_H (hw0 r' (by rcases sv_here (n0 := w0.heap.size) hV7 hr' with h9 | h9; exact h9.2; exact (hSep.1 _ (by simp)).2 r' h9)))
          ·
           refine g_step rfl (s_val (v_assign rfl) rfl rfl ?_)
           refine g_nil ?_
           refine g_block_normal ?_
           refine g_next hK13 ?_
           refine g_region ?_
           refine g_step rfl (s_val (v_move rfl) rfl rfl ?_)
           refine g_step rfl (s_val (v_add rfl rfl (by omega)) rfl rfl ?_)
           refine g_step rfl (s_val (v_assign rfl) rfl rfl ?_)
           refine g_nil ?_
           first | refine g_keep [0, 3, 4, 5, 6, 7, 8] [] [] (keep_cons rfl (keep_cons rfl (keep_cons rfl (keep_cons rfl (keep_cons rfl (keep_cons rfl (keep_cons rfl keep_nil))))))) lkeep_nil keep_nil rfl ?_ | refine g_keep [0, 3, 4, 5, 6, 7, 8] [] [] rfl rfl rfl rfl ?_
           exact g_round _ (by omega) ⟨k + 1, life, po, ro, pn, rn, f, o, a6, .own r' 3 0 (back ++ [(⟨q.life, q.epoch, false⟩ : Ans)]).length, out, back ++ [(⟨q.life, q.epoch, false⟩ : Ans)], ho, hn, h6, oneH r' _, by omega, rfl, rfl, rfl, rfl, ⟨hO, hI, hV6, hVn, hSep2, hs_H2, hInv.mono (by omega), by simp; omega⟩⟩
       ·
        try simp only [decide_eq_true_eq, decide_eq_false_iff_not, Bool.not_eq_true', Bool.not_eq_false', Bool.not_eq_eq_eq_not, Bool.not_true, Bool.not_false, Bool.and_eq_true, Bool.or_eq_true, Bool.or_eq_false_iff, beq_iff_eq, beq_eq_false_iff_ne, ne_eq, Int.not_lt, Int.not_le, Decidable.not_not] at hc90
        refine g_seq (fun K36 hK36 => ?_)
        refine g_region ?_
        refine g_step rfl (s_fieldAddr ty96 fo96_0 ty3 rfl rfl ?_)
        refine g_step rfl (s_val (v_loadl ty3 rfl rfl rfl rfl) rfl rfl ?_)
        refine g_step rfl (s_val (v_eql rfl rfl) rfl rfl ?_)
        refine g_step rfl (s_val (v_move rfl) rfl rfl ?_)
        refine g_split 154 rfl (fun hg154 => ?_) (fun hg154 => ?_)
        ·
         try simp only [decide_eq_true_eq, decide_eq_false_iff_not, Bool.not_eq_true', Bool.not_eq_false', Bool.not_eq_eq_eq_not, Bool.not_true, Bool.not_false, Bool.and_eq_true, Bool.or_eq_true, Bool.or_eq_false_iff, beq_iff_eq, beq_eq_false_iff_ne, ne_eq, Int.not_lt, Int.not_le, Decidable.not_not] at hg154
         refine g_step_yes (j := 3) (t := 154) rfl rfl rfl rfl (s_fieldAddr ty96 fo96_1 ty3 rfl rfl ?_)
         refine g_step_yes (j := 3) (t := 154) rfl rfl rfl rfl (s_val (v_loadl ty3 rfl rfl rfl rfl) rfl rfl ?_)
         refine g_step_yes (j := 3) (t := 154) rfl rfl rfl rfl (s_val (v_geq rfl rfl) rfl rfl ?_)
         refine g_step rfl (s_val (v_pick_t rfl rfl) rfl rfl ?_)
         refine g_step rfl (s_val (v_move rfl) rfl rfl ?_)
         refine g_split 159 rfl (fun hg159 => ?_) (fun hg159 => ?_)
         ·
          try simp only [decide_eq_true_eq, decide_eq_false_iff_not, Bool.not_eq_true', Bool.not_eq_false', Bool.not_eq_eq_eq_not, Bool.not_true, Bool.not_false, Bool.and_eq_true, Bool.or_eq_true, Bool.or_eq_false_iff, beq_iff_eq, beq_eq_false_iff_ne, ne_eq, Int.not_lt, Int.not_le, Decidable.not_not] at hg159
          refine g_step_yes (j := 8) (t := 159) rfl rfl rfl rfl (s_fieldAddr ty96 fo96_1 ty3 rfl rfl ?_)
          refine g_step_yes (j := 8) (t := 159) rfl rfl rfl rfl (s_val (v_loadl ty3 rfl rfl rfl rfl) rfl rfl ?_)
          refine g_step_yes (j := 8) (t := 159) rfl rfl rfl rfl (s_val (v_move rfl) rfl rfl ?_)
          refine g_step_yes (j := 8) (t := 159) rfl rfl rfl rfl (s_val (v_len ty94 rfl hv7.view (show _ = back.length by rw [List.length_map])) rfl rfl ?_)
          refine g_step_yes (j := 8) (t := 159) rfl rfl rfl rfl (s_val (v_lss rfl rfl) rfl rfl ?_)
          refine g_step rfl (s_val (v_pick_t rfl rfl) rfl rfl ?_)
          refine g_nil ?_
          refine g_next hK36 ?_
          refine g_cond rfl (fun hc165 => ?_) (fun hc165 => ?_)
          ·
           try simp only [decide_eq_true_eq, decide_eq_false_iff_not, Bool.not_eq_true', Bool.not_eq_false', Bool.not_eq_eq_eq_not, Bool.not_true, Bool.not_false, Bool.and_eq_true, Bool.or_eq_true, Bool.or_eq_false_iff, beq_iff_eq, beq_eq_false_iff_ne, ne_eq, Int.not_lt, Int.not_le, Decidable.not_not] at hc165
           obtain ⟨j, hj⟩ := Int.eq_ofNat_of_zero_le (show 0 ≤ x.n by omega)
           obtain ⟨q, hq⟩ := get_some (l := back) (k := j) (by omega)
           refine g_seq (fun K37 hK37 => ?_)
           refine g_region ?_
           refine g_step rfl (s_val (v_move rfl) rfl rfl ?_)
           refine g_step rfl (s_fieldAddr ty96 fo96_1 ty3 rfl rfl ?_)
           refine g_step rfl (s_val (v_loadl ty3 rfl rfl rfl rfl) rfl rfl ?_)
           refine g_step rfl (s_val (v_indexAddr ty94 ty101 rfl rfl hv7.view hj (map_get hq) rfl) rfl rfl ?_)
           refine g_step rfl (s_val (by first | exact v_fieldAddr ty101 fo101_2 ty4 rfl | exact v_fieldAddr_box ty101 fo101_2 ty4 rfl) rfl rfl ?_)
           refine g_step rfl (s_val (by first | exact v_load ty4 rfl rfl hv7.view (map_get hq) rfl | exact v_load_box ty4 rfl rfl (by assumption) rfl) rfl rfl ?_)
           refine g_nil ?_
           refine g_next hK37 ?_
           first | refine g_keep [0, 3, 4, 5, 6, 7, 8, 171] [9] [9] (keep_cons rfl (keep_cons rfl (keep_cons rfl (keep_cons rfl (keep_cons rfl (keep_cons rfl (keep_cons rfl (keep_cons rfl keep_nil)))))))) (lkeep_cons rfl lkeep_nil) (keep_cons rfl keep_nil) rfl ?_ | refine g_keep [0, 3, 4, 5, 6, 7, 8, 171] [9] [9] rfl rfl rfl rfl ?_
           refine g_cond rfl (fun hc171 => ?_) (fun hc171 => ?_)
           ·
            try simp only [decide_eq_true_eq, decide_eq_false_iff_not, Bool.not_eq_true', Bool.not_eq_false', Bool.not_eq_eq_eq_not, Bool.not_true, Bool.not_false, Bool.and_eq_true, Bool.or_eq_true, Bool.or_eq_false_iff, beq_iff_eq, beq_eq_false_iff_ne, ne_eq, Int.not_lt, Int.not_le, Decidable.not_not] at hc171
            refine g_draw (n := 14) (fun j => !([13] : List Nat).contains j) rfl rfl ?_
            refine m_take 0 false rfl rfl (by kernel_rfl) (by kernel_rfl) (by kernel_rfl) (fun _ _ _ _ h => h) (v_move rfl) rfl rfl ?_
            refine m_take 1 false rfl rfl (by kernel_rfl) (by kernel_rfl) (by kernel_rfl) (fun _ _ _ _ h => h) (v_move rfl) rfl rfl ?_
            refine m_takel 2 rfl rfl (by kernel_rfl) (by kernel_rfl) (by kernel_rfl) (fun _ _ _ _ h => h) (vl_fieldAddr ty96 fo96_1 ty3 rfl) rfl rfl ?_
            refine m_take 3 true rfl rfl (by kernel_rfl) (by kernel_rfl) (by kernel_rfl) (fun _ _ _ _ h => h) (v_loadl ty3 rfl rfl rfl rfl) rfl rfl ?_
            refine m_take 4 false rfl rfl (by kernel_rfl) (by kernel_rfl) (by kernel_rfl) (fun _ _ _ _ h => h) (v_indexAddr ty94 ty101 rfl rfl hv7.view hj (map_get hq) rfl) rfl rfl ?_
            refine m_take 5 false rfl rfl (by kernel_rfl) (by kernel_rfl) (by kernel_rfl) (fun _ _ _ _ h => h) (by first | exact v_fieldAddr ty101 fo101_0 ty3 rfl | exact v_fieldAddr_box ty101 fo101_0 ty3 rfl) rfl rfl ?_
            refine m_take 6 true rfl rfl (by kernel_rfl) (by kernel_rfl) (by kernel_rfl) (fun _ _ _ _ h => h) (by first | exact v_load ty3 rfl rfl hv7.view (map_get hq) rfl | exact v_load_box ty3 rfl rfl (by assumption) rfl) rfl rfl ?_
            refine m_take 7 false rfl rfl (by kernel_rfl) (by kernel_rfl) (by kernel_rfl) (fun _ _ _ _ h => h) (v_move rfl) rfl rfl ?_
            refine m_takel 8 rfl rfl (by kernel_rfl) (by kernel_rfl) (by kernel_rfl) (fun _ _ _ _ h => h) (vl_fieldAddr ty96 fo96_1 ty3 rfl) rfl rfl ?_
            refine m_take 9 true rfl rfl (by kernel_rfl) (by kernel_rfl) (by kernel_rfl) (fun _ _ _ _ h => h) (v_loadl ty3 rfl rfl rfl rfl) rfl rfl ?_
            refine m_take 10 false rfl rfl (by kernel_rfl) (by kernel_rfl) (by kernel_rfl) (fun _ _ _ _ h => h) (v_indexAddr ty94 ty101 rfl rfl hv7.view hj (map_get hq) rfl) rfl rfl ?_
            refine m_take 11 false rfl rfl (by kernel_rfl) (by kernel_rfl) (by kernel_rfl) (fun _ _ _ _ h => h) (by first | exact v_fieldAddr ty101 fo101_1 ty3 rfl | exact v_fieldAddr_box ty101 fo101_1 ty3 rfl) rfl rfl ?_
            refine m_take 12 true rfl rfl (by kernel_rfl) (by kernel_rfl) (by kernel_rfl) (fun _ _ _ _ h => h) (by first | exact v_load ty3 rfl rfl hv7.view (map_get hq) rfl | exact v_load_box ty3 rfl rfl (by assumption) rfl) rfl rfl ?_
            refine m_one 13 (by kernel_rfl) rfl rfl ?_
            refine sm_any rfl (s_call rfl rfl rfl (oAcked_ok ho po ro life f 0 q.life q.epoch _ hO hso (hInv.okS (by omega))) (fun b hb => .inr (hao b hb)) ?_)
            rintro n6 v6 effs6 hn6 hdom6 ⟨hv6, h1, hE6, hX1⟩ hok6
            skip
            have hSep1 : Sep w0.heap.size _ [h1, hn, h6, h7] := (show Sep w0.heap.size _ ([] ++ _ :: _) from hSep).turn hE6 hn6 hdom6
            have hs_H1 := hE6.frame hdom6 hs_H (fun b hb => hw0 b (hao b hb))
            generalize hG1 : setAll G effs6 = G1 at hSep1 hs_H1 ⊢
            refine m_done (by kernel_rfl) ?_
            refine g_block_normal ?_
            refine g_next hK13 ?_
            refine g_region ?_
            refine g_step rfl (s_val (v_move rfl) rfl rfl ?_)
            refine g_step rfl (s_val (v_add rfl rfl (by omega)) rfl rfl ?_)
            refine g_step rfl (s_val (v_assign rfl) rfl rfl ?_)
            refine g_nil ?_
            first | refine g_keep [0, 3, 4, 5, 6, 7, 8] [] [] (keep_cons rfl (keep_cons rfl (keep_cons rfl (keep_cons rfl (keep_cons rfl (keep_cons rfl (keep_cons rfl keep_nil))))))) lkeep_nil keep_nil rfl ?_ | refine g_keep [0, 3, 4, 5, 6, 7, 8] [] [] rfl rfl rfl rfl ?_
            exact g_round _ (by omega) ⟨k + 1, life, po, ro, pn, rn, upd f 0 (if q.life = life then ackF (f 0) q.epoch else f 0), o, a6, a7, out, back, h1, hn, h6, h7, by omega, rfl, rfl, rfl, rfl, ⟨hX1, hI, hV6, hV7, hSep1, hs_H1, by rw [upd_at]; split; exact (hInv.ack _).mono (by omega); exact hInv.mono (by omega), by omega⟩⟩
           ·
            try simp only [decide_eq_true_eq, decide_eq_false_iff_not, Bool.not_eq_true', Bool.not_eq_false', Bool.not_eq_eq_eq_not, Bool.not_true, Bool.not_false, Bool.and_eq_true, Bool.or_eq_true, Bool.or_eq_false_iff, beq_iff_eq, beq_eq_false_iff_ne, ne_eq, Int.not_lt, Int.not_le, Decidable.not_not] at hc171
            refine g_draw (n := 14) (fun j => !([13] : List Nat).contains j) rfl rfl ?_
            refine m_take 0 false rfl rfl (by kernel_rfl) (by kernel_rfl) (by kernel_rfl) (fun _ _ _ _ h => h) (v_move rfl) rfl rfl ?_
            refine m_take 1 false rfl rfl (by kernel_rfl) (by kernel_rfl) (by kernel_rfl) (fun _ _ _ _ h => h) (v_move rfl) rfl rfl ?_
            refine m_takel 2 rfl rfl (by kernel_rfl) (by kernel_rfl) (by kernel_rfl) (fun _ _ _ _ h => h) (vl_fieldAddr ty96 fo96_1 ty3 rfl) rfl rfl ?_
            refine m_take 3 true rfl rfl (by kernel_rfl) (by kernel_rfl) (by kernel_rfl) (fun _ _ _ _ h => h) (v_loadl ty3 rfl rfl rfl rfl) rfl rfl ?_
            refine m_take 4 false rfl rfl (by kernel_rfl) (by kernel_rfl) (by kernel_rfl) (fun _ _ _ _ h => h) (v_indexAddr ty94 ty101 rfl rfl hv7.view hj (map_get hq) rfl) rfl rfl ?_
            refine m_take 5 false rfl rfl (by kernel_rfl) (by kernel_rfl) (by kernel_rfl) (fun _ _ _ _ h => h) (by first | exact v_fieldAddr ty101 fo101_0 ty3 rfl | exact v_fieldAddr_box ty101 fo101_0 ty3 rfl) rfl rfl ?_
            refine m_take 6 true rfl rfl (by kernel_rfl) (by kernel_rfl) (by kernel_rfl) (fun _ _ _ _ h => h) (by first | exact v_load ty3 rfl rfl hv7.view (map_get hq) rfl | exact v_load_box ty3 rfl rfl (by assumption) rfl) rfl rfl ?_
            refine m_take 7 false rfl rfl (by kernel_rfl) (by kernel_rfl) (by kernel_rfl) (fun _ _ _ _ h => h) (v_move rfl) rfl rfl ?_
            refine m_takel 8 rfl rfl (by kernel_rfl) (by kernel_rfl) (by kernel_rfl) (fun _ _ _ _ h => h) (vl_fieldAddr ty96 fo96_1 ty3 rfl) rfl rfl ?_
            refine m_take 9 true rfl rfl (by kernel_rfl) (by kernel_rfl) (by kernel_rfl) (fun _ _ _ _ h => h) (v_loadl ty3 rfl rfl rfl rfl) rfl rfl ?_
            refine m_take 10 false rfl rfl (by kernel_rfl) (by kernel_rfl) (by kernel_rfl) (fun _ _ _ _ h => h) (v_indexAddr ty94 ty101 rfl rfl hv7.view hj (map_get hq) rfl) rfl rfl ?_
            refine m_take 11 false rfl rfl (by kernel_rfl) (by kernel_rfl) (by kernel_rfl) (fun _ _ _ _ h => h) (by first | exact v_fieldAddr ty101 fo101_1 ty3 rfl | exact v_fieldAddr_box ty101 fo101_1 ty3 rfl) rfl rfl ?_
            refine m_take 12 true rfl rfl (by kernel_rfl) (by kernel_rfl) (by kernel_rfl) (fun _ _ _ _ h => h) (by first | exact v_load ty3 rfl rfl hv7.view (map_get hq) rfl | exact v_load_box ty3 rfl rfl (by assumption) rfl) rfl rfl ?_
            refine m_one 13 (by kernel_rfl) rfl rfl ?_
            refine sm_any rfl (s_call rfl rfl rfl (oLacked_ok ho po ro life f 0 q.life q.epoch _ hO hso (hInv.okS (by omega))) (fun b hb => .inr (hao b hb)) ?_)
            rintro n7 v7 effs7 hn7 hdom7 ⟨hv7, h1, hE7, hX1⟩ hok7
            skip
            have hSep1 : Sep w0.heap.size _ [h1, hn, h6, h7] := (show Sep w0.heap.size _ ([] ++ _ :: _) from hSep).turn hE7 hn7 hdom7
            have hs_H1 := hE7.frame hdom7 hs_H (fun b hb => hw0 b (hao b hb))
            generalize hG1 : setAll G effs7 = G1 at hSep1 hs_H1 ⊢
            refine m_done (by kernel_rfl) ?_
            refine g_block_normal ?_
            refine g_next hK13 ?_
            refine g_region ?_
            refine g_step rfl (s_val (v_move rfl) rfl rfl ?_)
            refine g_step rfl (s_val (v_add rfl rfl (by omega)) rfl rfl ?_)
            refine g_step rfl (s_val (v_assign rfl) rfl rfl ?_)
            refine g_nil ?_
            first | refine g_keep [0, 3, 4, 5, 6, 7, 8] [] [] (keep_cons rfl (keep_cons rfl (keep_cons rfl (keep_cons rfl (keep_cons rfl (keep_cons rfl (keep_cons rfl keep_nil))))))) lkeep_nil keep_nil rfl ?_ | refine g_keep [0, 3, 4, 5, 6, 7, 8] [] [] rfl rfl rfl rfl ?_
            exact g_round _ (by omega) ⟨k + 1, life, po, ro, pn, rn, upd f 0 (if q.life = life then lackF (f 0) q.epoch else f 0), o, a6, a7, out, back, h1, hn, h6, h7, by omega, rfl, rfl, rfl, rfl, ⟨hX1, hI, hV6, hV7, hSep1, hs_H1, by rw [upd_at]; split; exact (hInv.lack _).mono (by omega); exact hInv.mono (by omega), by omega⟩⟩
          ·
           try simp only [decide_eq_true_eq, decide_eq_false_iff_not, Bool.not_eq_true', Bool.not_eq_false', Bool.not_eq_eq_eq_not, Bool.not_true, Bool.not_false, Bool.and_eq_true, Bool.or_eq_true, Bool.or_eq_false_iff, beq_iff_eq, beq_eq_false_iff_ne, ne_eq, Int.not_lt, Int.not_le, Decidable.not_not] at hc165
           refine g_seq (fun K38 hK38 => ?_)
           refine g_region ?_
           refine g_step rfl (s_fieldAddr ty96 fo96_0 ty3 rfl rfl ?_)
           refine g_step rfl (s_val (v_loadl ty3 rfl rfl rfl rfl) rfl rfl ?_)
           refine g_step rfl (s_val (v_eql rfl rfl) rfl rfl ?_)
           refine g_nil ?_
           refine g_next hK38 ?_
           refine g_cond rfl (fun hc202 => ?_) (fun hc202 => ?_)
           ·
            try simp only [decide_eq_true_eq, decide_eq_false_iff_not, Bool.not_eq_true', Bool.not_eq_false', Bool.not_eq_eq_eq_not, Bool.not_true, Bool.not_false, Bool.and_eq_true, Bool.or_eq_true, Bool.or_eq_false_iff, beq_iff_eq, beq_eq_false_iff_ne, ne_eq, Int.not_lt, Int.not_le, Decidable.not_not] at hc202
            refine g_region ?_
            refine g_step rfl (s_call rfl rfl rfl (pushed_ok _) (fun _ h => h.elim) ?_)
            rintro n8 _ effs8 hn8 hdom8 ⟨pn2, rn2, hp8, hr8, hpr8, rfl, rfl⟩ hok8
            have hE8 := empty_eff (x := bmRow []) (y := .box (.agg [.map rn2])) hp8 hr8
            have hSep2 : Sep w0.heap.size _ [ho, ((AHeap.set noH rn2 (bmRow [])).set pn2 (.box (.agg [.map rn2]))), h6, h7] := (show Sep w0.heap.size _ ([ho] ++ _ :: _) from hSep).fresh hE8 hn8 hdom8
            have hI2 : InIs ((AHeap.set noH rn2 (bmRow [])).set pn2 (.box (.agg [.map rn2]))) pn2 rn2 (fun _ => none) := ⟨[], _, PA.empty (h0 := noH) hpr8, fun _ _ h => by cases h⟩
            have hs_H2 := hE8.frame hdom8 hs_H (fun b hb => absurd rfl hb)
            generalize hG2 : setAll G _ = G2 at hSep2 hs_H2 ⊢
            refine g_step rfl (s_val (v_assign rfl) rfl rfl ?_)
            refine g_nil ?_
            refine g_block_normal ?_
            refine g_next hK13 ?_
            refine g_region ?_
            refine g_step rfl (s_val (v_move rfl) rfl rfl ?_)
            refine g_step rfl (s_val (v_add rfl rfl (by omega)) rfl rfl ?_)
            refine g_step rfl (s_val (v_assign rfl) rfl rfl ?_)
            refine g_nil ?_
            first | refine g_keep [0, 3, 4, 5, 6, 7, 8] [] [] (keep_cons rfl (keep_cons rfl (keep_cons rfl (keep_cons rfl (keep_cons rfl (keep_cons rfl (keep_cons rfl keep_nil))))))) lkeep_nil keep_nil rfl ?_ | refine g_keep [0, 3, 4, 5, 6, 7, 8] [] [] rfl rfl rfl rfl ?_
            exact g_round _ (by omega) ⟨k + 1, life, po, ro, pn2, rn2, f, (fun _ => none), a6, a7, out, back, ho, _, h6, h7, by omega, rfl, rfl, rfl, rfl, ⟨hO, hI2, hV6, hV7, hSep2, hs_H2, hInv.newIn.mono (by omega), by omega⟩⟩
           ·
            try simp only [decide_eq_true_eq, decide_eq_false_iff_not, Bool.not_eq_true', Bool.not_eq_false', Bool.not_eq_eq_eq_not, Bool.not_true, Bool.not_false, Bool.and_eq_true, Bool.or_eq_true, Bool.or_eq_false_iff, beq_iff_eq, beq_eq_false_iff_ne, ne_eq, Int.not_lt, Int.not_le, Decidable.not_not] at hc202
            refine g_seq (fun K39 hK39 => ?_)
            refine g_region ?_
            refine g_step rfl (s_fieldAddr ty96 fo96_0 ty3 rfl rfl ?_)
            refine g_step rfl (s_val (v_loadl ty3 rfl rfl rfl rfl) rfl rfl ?_)
            refine g_step rfl (s_val (v_eql rfl rfl) rfl rfl ?_)
            refine g_nil ?_
            refine g_next hK39 ?_
            refine g_cond rfl (fun hc206 => ?_) (fun hc206 => ?_)
            ·
             try simp only [decide_eq_true_eq, decide_eq_false_iff_not, Bool.not_eq_true', Bool.not_eq_false', Bool.not_eq_eq_eq_not, Bool.not_true, Bool.not_false, Bool.and_eq_true, Bool.or_eq_true, Bool.or_eq_false_iff, beq_iff_eq, beq_eq_false_iff_ne, ne_eq, Int.not_lt, Int.not_le, Decidable.not_not] at hc206
             refine g_seq (fun K40 hK40 => ?_)
             refine g_region ?_
             refine g_step rfl (s_val (v_move rfl) rfl rfl ?_)
             refine g_step rfl (s_val (v_add rfl rfl (by omega)) rfl rfl ?_)
             refine g_step rfl (s_val (v_assign rfl) rfl rfl ?_)
             refine g_nil ?_
             refine g_next hK40 ?_
             first | refine g_keep [0, 3, 5, 6, 7, 8] [] [] (keep_cons rfl (keep_cons rfl (keep_cons rfl (keep_cons rfl (keep_cons rfl (keep_cons rfl keep_nil)))))) lkeep_nil keep_nil rfl ?_ | refine g_keep [0, 3, 5, 6, 7, 8] [] [] rfl rfl rfl rfl ?_
             refine g_region ?_
             refine g_step rfl (s_val (v_move rfl) rfl rfl ?_)
             refine g_step rfl (s_call rfl rfl rfl (pushing_ok (life + 1) _) (fun _ h => h.elim) ?_)
             rintro n9 _ effs9 hn9 hdom9 ⟨po2, ro2, hp9, hr9, hpr9, rfl, rfl⟩ hok9
             have hE9 := empty_eff (x := bmRow []) (y := .box (.agg [.int .i64 (life + 1), .map ro2])) hp9 hr9
             have hSep1 : Sep w0.heap.size _ [((AHeap.set noH ro2 (bmRow [])).set po2 (.box (.agg [.int .i64 (life + 1), .map ro2]))), hn, h6, h7] := (show Sep w0.heap.size _ ([] ++ _ :: _) from hSep).fresh hE9 hn9 hdom9
             have hO1 : OutIs ((AHeap.set noH ro2 (bmRow [])).set po2 (.box (.agg [.int .i64 (life + 1), .map ro2]))) po2 ro2 (life + 1) (fun _ => s0) := ⟨[], _, PA.empty (h0 := noH) hpr9⟩
             have hs_H1 := hE9.frame hdom9 hs_H (fun b hb => absurd rfl hb)
             generalize hG1 : setAll G _ = G1 at hSep1 hs_H1 ⊢
             refine g_step rfl (s_val (v_assign rfl) rfl rfl ?_)
             refine g_nil ?_
             refine g_block_normal ?_
             refine g_next hK13 ?_
             refine g_region ?_
             refine g_step rfl (s_val (v_move rfl) rfl rfl ?_)
             refine g_step rfl (s_val (v_add rfl rfl (by omega)) rfl rfl ?_)
             refine g_step rfl (s_val (v_assign rfl) rfl rfl ?_)
             refine g_nil ?_
             first | refine g_keep [0, 3, 4, 5, 6, 7, 8] [] [] (keep_cons rfl (keep_cons rfl (keep_cons rfl (keep_cons rfl (keep_cons rfl (keep_cons rfl (keep_cons rfl keep_nil))))))) lkeep_nil keep_nil rfl ?_ | refine g_keep [0, 3, 4, 5, 6, 7, 8] [] [] rfl rfl rfl rfl ?_
             exact g_round _ (by omega) ⟨k + 1, (life + 1), po2, ro2, pn, rn, (fun _ => s0), o, a6, a7, out, back, _, hn, h6, h7, by omega, rfl, rfl, rfl, rfl, ⟨hO1, hI, hV6, hV7, hSep1, hs_H1, hInv.newOut, by omega⟩⟩
            ·
             try simp only [decide_eq_true_eq, decide_eq_false_iff_not, Bool.not_eq_true', Bool.not_eq_false', Bool.not_eq_eq_eq_not, Bool.not_true, Bool.not_false, Bool.and_eq_true, Bool.or_eq_true, Bool.or_eq_false_iff, beq_iff_eq, beq_eq_false_iff_ne, ne_eq, Int.not_lt, Int.not_le, Decidable.not_not] at hc206
             refine g_skip ?_
             refine g_block_normal ?_
             refine g_next hK13 ?_
             refine g_region ?_
             refine g_step rfl (s_val (v_move rfl) rfl rfl ?_)
             refine g_step rfl (s_val (v_add rfl rfl (by omega)) rfl rfl ?_)
             refine g_step rfl (s_val (v_assign rfl) rfl rfl ?_)
             refine g_nil ?_
             first | refine g_keep [0, 3, 4, 5, 6, 7, 8] [] [] (keep_cons rfl (keep_cons rfl (keep_cons rfl (keep_cons rfl (keep_cons rfl (keep_cons rfl (keep_cons rfl keep_nil))))))) lkeep_nil keep_nil rfl ?_ | refine g_keep [0, 3, 4, 5, 6, 7, 8] [] [] rfl rfl rfl rfl ?_
             exact g_round _ (by omega) ⟨k + 1, life, po, ro, pn, rn, f, o, a6, a7, out, back, ho, hn, h6, h7, by omega, rfl, rfl, rfl, rfl, ⟨hO, hI, hV6, hV7, hSep, hs_H, hInv.mono (by omega), by omega⟩⟩
         ·
          try simp only [decide_eq_true_eq, decide_eq_false_iff_not, Bool.not_eq_true', Bool.not_eq_false', Bool.not_eq_eq_eq_not, Bool.not_true, Bool.not_false, Bool.and_eq_true, Bool.or_eq_true, Bool.or_eq_false_iff, beq_iff_eq, beq_eq_false_iff_ne, ne_eq, Int.not_lt, Int.not_le, Decidable.not_not] at hg159
          refine g_step_no (j := 8) (t := 159) rfl rfl rfl rfl rfl rfl rfl ?_
          refine g_step_no (j := 8) (t := 159) rfl rfl rfl rfl rfl rfl rfl ?_
          refine g_step_no (j := 8) (t := 159) rfl rfl rfl rfl rfl rfl rfl ?_
          refine g_step_no (j := 8) (t := 159) rfl rfl rfl rfl rfl rfl rfl ?_
          refine g_step_no (j := 8) (t := 159) rfl rfl rfl rfl rfl rfl rfl ?_
          refine g_step rfl (s_val (v_pick_f rfl rfl) rfl rfl ?_)
          refine g_nil ?_
          refine g_next hK36 ?_
          refine g_cond rfl (fun h => by cases h) (fun _ => ?_)
          refine g_seq (fun K41 hK41 => ?_)
          refine g_region ?_
          refine g_step rfl (s_fieldAddr ty96 fo96_0 ty3 rfl rfl ?_)
          refine g_step rfl (s_val (v_loadl ty3 rfl rfl rfl rfl) rfl rfl ?_)
          refine g_step rfl (s_val (v_eql rfl rfl) rfl rfl ?_)
          refine g_nil ?_
          refine g_next hK41 ?_
          refine g_cond rfl (fun hc202 => ?_) (fun hc202 => ?_)
          ·
           try simp only [decide_eq_true_eq, decide_eq_false_iff_not, Bool.not_eq_true', Bool.not_eq_false', Bool.not_eq_eq_eq_not, Bool.not_true, Bool.not_false, Bool.and_eq_true, Bool.or_eq_true, Bool.or_eq_false_iff, beq_iff_eq, beq_eq_false_iff_ne, ne_eq, Int.not_lt, Int.not_le, Decidable.not_not] at hc202
           refine g_region ?_
           refine g_step rfl (s_call rfl rfl rfl (pushed_ok _) (fun _ h => h.elim) ?_)
           rintro n8 _ effs8 hn8 hdom8 ⟨pn2, rn2, hp8, hr8, hpr8, rfl, rfl⟩ hok8
           have hE8 := empty_eff (x := bmRow []) (y := .box (.agg [.map rn2])) hp8 hr8
           have hSep2 : Sep w0.heap.size _ [ho, ((AHeap.set noH rn2 (bmRow [])).set pn2 (.box (.agg [.map rn2]))), h6, h7] := (show Sep w0.heap.size _ ([ho] ++ _ :: _) from hSep).fresh hE8 hn8 hdom8
           have hI2 : InIs ((AHeap.set noH rn2 (bmRow [])).set pn2 (.box (.agg [.map rn2]))) pn2 rn2 (fun _ => none) := ⟨[], _, PA.empty (h0 := noH) hpr8, fun _ _ h => by cases h⟩
           have hs_H2 := hE8.frame hdom8 hs_H (fun b hb => absurd rfl hb)
           generalize hG2 : setAll G _ = G2 at hSep2 hs_H2 ⊢
           refine g_step rfl (s_val (v_assign rfl) rfl rfl ?_)
           refine g_nil ?_
           refine g_block_normal ?_
           refine g_next hK13 ?_
           refine g_region ?_
           refine g_step rfl (s_val (v_move rfl) rfl rfl ?_)
           refine g_step rfl (s_val (v_add rfl rfl (by omega)) rfl rfl ?_)
           refine g_step rfl (s_val (v_assign rfl) rfl rfl ?_)
           refine g_nil ?_
           first | refine g_keep [0, 3, 4, 5, 6, 7, 8] [] [] (keep_cons rfl (keep_cons rfl (keep_cons rfl (keep_cons rfl (keep_cons rfl (keep_cons rfl (keep_cons rfl keep_nil))))))) lkeep_nil keep_nil rfl ?_ | refine g_keep [0, 3, 4, 5, 6, 7, 8] [] [] rfl rfl rfl rfl ?_
           exact g_round _ (by omega) ⟨k + 1, life, po, ro, pn2, rn2, f, (fun _ => none), a6, a7, out, back, ho, _, h6, h7, by omega, rfl, rfl, rfl, rfl, ⟨hO, hI2, hV6, hV7, hSep2, hs_H2, hInv.newIn.mono (by omega), by omega⟩⟩
          ·
           try simp only [decide_eq_true_eq, decide_eq_false_iff_not, Bool.not_eq_true', Bool.not_eq_false', Bool.not_eq_eq_eq_not, Bool.not_true, Bool.not_false, Bool.and_eq_true, Bool.or_eq_true, Bool.or_eq_false_iff, beq_iff_eq, beq_eq_false_iff_ne, ne_eq, Int.not_lt, Int.not_le, Decidable.not_not] at hc202
           refine g_seq (fun K42 hK42 => ?_)
           refine g_region ?_
           refine g_step rfl (s_fieldAddr ty96 fo96_0 ty3 rfl rfl ?_)
           refine g_step rfl (s_val (v_loadl ty3 rfl rfl rfl rfl) rfl rfl ?_)
           refine g_step rfl (s_val (v_eql rfl rfl) rfl rfl ?_)
           refine g_nil ?_
           refine g_next hK42 ?_
           first | refine g_keep [0, 3, 4, 5, 6, 7, 8, 206] [] [] (keep_cons rfl (keep_cons rfl (keep_cons rfl (keep_cons rfl (keep_cons rfl (keep_cons rfl (keep_cons rfl (keep_cons rfl keep_nil)))))))) lkeep_nil keep_nil rfl ?_ | refine g_keep [0, 3, 4, 5, 6, 7, 8, 206] [] [] rfl rfl rfl rfl ?_
           refine g_cond rfl (fun hc206 => ?_) (fun hc206 => ?_)
           ·
            try simp only [decide_eq_true_eq, decide_eq_false_iff_not, Bool.not_eq_true', Bool.not_eq_false', Bool.not_eq_eq_eq_not, Bool.not_true, Bool.not_false, Bool.and_eq_true, Bool.or_eq_true, Bool.or_eq_false_iff, beq_iff_eq, beq_eq_false_iff_ne, ne_eq, Int.not_lt, Int.not_le, Decidable.not_not] at hc206
            refine g_seq (fun K43 hK43 => ?_)
            refine g_region ?_
            refine g_step rfl (s_val (v_move rfl) rfl rfl ?_)
            refine g_step rfl (s_val (v_add rfl rfl (by omega)) rfl rfl ?_)
            refine g_step rfl (s_val (v_assign rfl) rfl rfl ?_)
            refine g_nil ?_
            refine g_next hK43 ?_
            refine g_region ?_
            refine g_step rfl (s_val (v_move rfl) rfl rfl ?_)
            refine g_step rfl (s_call rfl rfl rfl (pushing_ok (life + 1) _) (fun _ h => h.elim) ?_)
            rintro n9 _ effs9 hn9 hdom9 ⟨po2, ro2, hp9, hr9, hpr9, rfl, rfl⟩ hok9
            have hE9 := empty_eff (x := bmRow []) (y := .box (.agg [.int .i64 (life + 1), .map ro2])) hp9 hr9
            have hSep1 : Sep w0.heap.size _ [((AHeap.set noH ro2 (bmRow [])).set po2 (.box (.agg [.int .i64 (life + 1), .map ro2]))), hn, h6, h7] := (show Sep w0.heap.size _ ([] ++ _ :: _) from hSep).fresh hE9 hn9 hdom9
            have hO1 : OutIs ((AHeap.set noH ro2 (bmRow [])).set po2 (.box (.agg [.int .i64 (life + 1), .map ro2]))) po2 ro2 (life + 1) (fun _ => s0) := ⟨[], _, PA.empty (h0 := noH) hpr9⟩
            have hs_H1 := hE9.frame hdom9 hs_H (fun b hb => absurd rfl hb)
            generalize hG1 : setAll G _ = G1 at hSep1 hs_H1 ⊢
            refine g_step rfl (s_val (v_assign rfl) rfl rfl ?_)
            refine g_nil ?_
            refine g_block_normal ?_
            refine g_next hK13 ?_
            refine g_region ?_
            refine g_step rfl (s_val (v_move rfl) rfl rfl ?_)
            refine g_step rfl (s_val (v_add rfl rfl (by omega)) rfl rfl ?_)
            refine g_step rfl (s_val (v_assign rfl) rfl rfl ?_)
            refine g_nil ?_
            first | refine g_keep [0, 3, 4, 5, 6, 7, 8] [] [] (keep_cons rfl (keep_cons rfl (keep_cons rfl (keep_cons rfl (keep_cons rfl (keep_cons rfl (keep_cons rfl keep_nil))))))) lkeep_nil keep_nil rfl ?_ | refine g_keep [0, 3, 4, 5, 6, 7, 8] [] [] rfl rfl rfl rfl ?_
            exact g_round _ (by omega) ⟨k + 1, (life + 1), po2, ro2, pn, rn, (fun _ => s0), o, a6, a7, out, back, _, hn, h6, h7, by omega, rfl, rfl, rfl, rfl, ⟨hO1, hI, hV6, hV7, hSep1, hs_H1, hInv.newOut, by omega⟩⟩
           ·
            try simp only [decide_eq_true_eq, decide_eq_false_iff_not, Bool.not_eq_true', Bool.not_eq_false', Bool.not_eq_eq_eq_not, Bool.not_true, Bool.not_false, Bool.and_eq_true, Bool.or_eq_true, Bool.or_eq_false_iff, beq_iff_eq, beq_eq_false_iff_ne, ne_eq, Int.not_lt, Int.not_le, Decidable.not_not] at hc206
            refine g_skip ?_
            refine g_block_normal ?_
            refine g_next hK13 ?_
            refine g_region ?_
            refine g_step rfl (s_val (v_move rfl) rfl rfl ?_)
            refine g_step rfl (s_val (v_add rfl rfl (by omega)) rfl rfl ?_)
            refine g_step rfl (s_val (v_assign rfl) rfl rfl ?_)
            refine g_nil ?_
            first | refine g_keep [0, 3, 4, 5, 6, 7, 8] [] [] (keep_cons rfl (keep_cons rfl (keep_cons rfl (keep_cons rfl (keep_cons rfl (keep_cons rfl (keep_cons rfl keep_nil))))))) lkeep_nil keep_nil rfl ?_ | refine g_keep [0, 3, 4, 5, 6, 7, 8] [] [] rfl rfl rfl rfl ?_
            exact g_round _ (by omega) ⟨k + 1, life, po, ro, pn, rn, f, o, a6, a7, out, back, ho, hn, h6, h7, by omega, rfl, rfl, rfl, rfl, ⟨hO, hI, hV6, hV7, hSep, hs_H, hInv.mono (by omega), by omega⟩⟩
        ·
         try simp only [decide_eq_true_eq, decide_eq_false_iff_not, Bool.not_eq_true', Bool.not_eq_false', Bool.not_eq_eq_eq_not, Bool.not_true, Bool.not_false, Bool.and_eq_true, Bool.or_eq_true, Bool.or_eq_false_iff, beq_iff_eq, beq_eq_false_iff_ne, ne_eq, Int.not_lt, Int.not_le, Decidable.not_not] at hg154
         refine g_step_no (j := 3) (t := 154) rfl rfl rfl rfl rfl rfl rfl ?_
         refine g_step_no (j := 3) (t := 154) rfl rfl rfl rfl rfl rfl rfl ?_
         refine g_step_no (j := 3) (t := 154) rfl rfl rfl rfl rfl rfl rfl ?_
         refine g_step rfl (s_val (v_pick_f rfl rfl) rfl rfl ?_)
         refine g_step rfl (s_val (v_move rfl) rfl rfl ?_)
         refine g_step_no (j := 8) (t := 159) rfl rfl rfl rfl rfl rfl rfl ?_
         refine g_step_no (j := 8) (t := 159) rfl rfl rfl rfl rfl rfl rfl ?_
         refine g_step_no (j := 8) (t := 159) rfl rfl rfl rfl rfl rfl rfl ?_
         refine g_step_no (j := 8) (t := 159) rfl rfl rfl rfl rfl rfl rfl ?_
         refine g_step_no (j := 8) (t := 159) rfl rfl rfl rfl rfl rfl rfl ?_
         refine g_step rfl (s_val (v_pick_f rfl rfl) rfl rfl ?_)
         refine g_nil ?_
         refine g_next hK36 ?_
         refine g_cond rfl (fun h => by cases h) (fun _ => ?_)
         refine g_seq (fun K44 hK44 => ?_)
         refine g_region ?_
         refine g_step rfl (s_fieldAddr ty96 fo96_0 ty3 rfl rfl ?_)
         refine g_step rfl (s_val (v_loadl ty3 rfl rfl rfl rfl) rfl rfl ?_)
         refine g_step rfl (s_val (v_eql rfl rfl) rfl rfl ?_)
         refine g_nil ?_
         refine g_next hK44 ?_
         refine g_cond rfl (fun hc202 => ?_) (fun hc202 => ?_)
         ·
          try simp only [decide_eq_true_eq, decide_eq_false_iff_not, Bool.not_eq_true', Bool.not_eq_false', Bool.not_eq_eq_eq_not, Bool.not_true, Bool.not_false, Bool.and_eq_true, Bool.or_eq_true, Bool.or_eq_false_iff, beq_iff_eq, beq_eq_false_iff_ne, ne_eq, Int.not_lt, Int.not_le, Decidable.not_not] at hc202
          refine g_region ?_
          refine g_step rfl (s_call rfl rfl rfl (pushed_ok _) (fun _ h => h.elim) ?_)
          rintro n8 _ effs8 hn8 hdom8 ⟨pn2, rn2, hp8, hr8, hpr8, rfl, rfl⟩ hok8
          have hE8 := empty_eff (x := bmRow []) (y := .box (.agg [.map rn2])) hp8 hr8
          have hSep2 : Sep w0.heap.size _ [ho, ((AHeap.set noH rn2 (bmRow [])).set pn2 (.box (.agg [.map rn2]))), h6, h7] := (show Sep w0.heap.size _ ([ho] ++ _ :: _) from hSep).fresh hE8 hn8 hdom8
          have hI2 : InIs ((AHeap.set noH rn2 (bmRow [])).set pn2 (.box (.agg [.map rn2]))) pn2 rn2 (fun _ => none) := ⟨[], _, PA.empty (h0 := noH) hpr8, fun _ _ h => by cases h⟩
          have hs_H2 := hE8.frame hdom8 hs_H (fun b hb => absurd rfl hb)
          generalize hG2 : setAll G _ = G2 at hSep2 hs_H2 ⊢
          refine g_step rfl (s_val (v_assign rfl) rfl rfl ?_)
          refine g_nil ?_
          refine g_block_normal ?_
          refine g_next hK13 ?_
          first | refine g_keep [0, 3, 4, 5, 6, 7, 8] [] [] (keep_cons rfl (keep_cons rfl (keep_cons rfl (keep_cons rfl (keep_cons rfl (keep_cons rfl (keep_cons rfl keep_nil))))))) lkeep_nil keep_nil rfl ?_ | refine g_keep [0, 3, 4, 5, 6, 7, 8] [] [] rfl rfl rfl rfl ?_
          refine g_region ?_
          refine g_step rfl (s_val (v_move rfl) rfl rfl ?_)
          refine g_step rfl (s_val (v_add rfl rfl (by omega)) rfl rfl ?_)
          refine g_step rfl (s_val (v_assign rfl) rfl rfl ?_)
          refine g_nil ?_
          first | refine g_keep [0, 3, 4, 5, 6, 7, 8] [] [] (keep_cons rfl (keep_cons rfl (keep_cons rfl (keep_cons rfl (keep_cons rfl (keep_cons rfl (keep_cons rfl keep_nil))))))) lkeep_nil keep_nil rfl ?_ | refine g_keep [0, 3, 4, 5, 6, 7, 8] [] [] rfl rfl rfl rfl ?_
          exact g_round _ (by omega) ⟨k + 1, life, po, ro, pn2, rn2, f, (fun _ => none), a6, a7, out, back, ho, _, h6, h7, by omega, rfl, rfl, rfl, rfl, ⟨hO, hI2, hV6, hV7, hSep2, hs_H2, hInv.newIn.mono (by omega), by omega⟩⟩
         ·
          try simp only [decide_eq_true_eq, decide_eq_false_iff_not, Bool.not_eq_true', Bool.not_eq_false', Bool.not_eq_eq_eq_not, Bool.not_true, Bool.not_false, Bool.and_eq_true, Bool.or_eq_true, Bool.or_eq_false_iff, beq_iff_eq, beq_eq_false_iff_ne, ne_eq, Int.not_lt, Int.not_le, Decidable.not_not] at hc202
          refine g_seq (fun K45 hK45 => ?_)
          refine g_region ?_
          refine g_step rfl (s_fieldAddr ty96 fo96_0 ty3 rfl rfl ?_)
          refine g_step rfl (s_val (v_loadl ty3 rfl rfl rfl rfl) rfl rfl ?_)
          refine g_step rfl (s_val (v_eql rfl rfl) rfl rfl ?_)
          refine g_nil ?_
          refine g_next hK45 ?_
          first | refine g_keep [0, 3, 4, 5, 6, 7, 8, 206] [] [] (keep_cons rfl (keep_cons rfl (keep_cons rfl (keep_cons rfl (keep_cons rfl (keep_cons rfl (keep_cons rfl (keep_cons rfl keep_nil)))))))) lkeep_nil keep_nil rfl ?_ | refine g_keep [0, 3, 4, 5, 6, 7, 8, 206] [] [] rfl rfl rfl rfl ?_
          refine g_cond rfl (fun hc206 => ?_) (fun hc206 => ?_)
          ·
           try simp only [decide_eq_true_eq, decide_eq_false_iff_not, Bool.not_eq_true', Bool.not_eq_false', Bool.not_eq_eq_eq_not, Bool.not_true, Bool.not_false, Bool.and_eq_true, Bool.or_eq_true, Bool.or_eq_false_iff, beq_iff_eq, beq_eq_false_iff_ne, ne_eq, Int.not_lt, Int.not_le, Decidable.not_not] at hc206
           refine g_seq (fun K46 hK46 => ?_)
           refine g_region ?_
           refine g_step rfl (s_val (v_move rfl) rfl rfl ?_)
           refine g_step rfl (s_val (v_add rfl rfl (by omega)) rfl rfl ?_)
           refine g_step rfl (s_val (v_assign rfl) rfl rfl ?_)
           refine g_nil ?_
           refine g_next hK46 ?_
           refine g_region ?_
           refine g_step rfl (s_val (v_move rfl) rfl rfl ?_)
           refine g_step rfl (s_call rfl rfl rfl (pushing_ok (life + 1) _) (fun _ h => h.elim) ?_)
           rintro n9 _ effs9 hn9 hdom9 ⟨po2, ro2, hp9, hr9, hpr9, rfl, rfl⟩ hok9
           have hE9 := empty_eff (x := bmRow []) (y := .box (.agg [.int .i64 (life + 1), .map ro2])) hp9 hr9
           have hSep1 : Sep w0.heap.size _ [((AHeap.set noH ro2 (bmRow [])).set po2 (.box (.agg [.int .i64 (life + 1), .map ro2]))), hn, h6, h7] := (show Sep w0.heap.size _ ([] ++ _ :: _) from hSep).fresh hE9 hn9 hdom9
           have hO1 : OutIs ((AHeap.set noH ro2 (bmRow [])).set po2 (.box (.agg [.int .i64 (life + 1), .map ro2]))) po2 ro2 (life + 1) (fun _ => s0) := ⟨[], _, PA.empty (h0 := noH) hpr9⟩
           have hs_H1 := hE9.frame hdom9 hs_H (fun b hb => absurd rfl hb)
           generalize hG1 : setAll G _ = G1 at hSep1 hs_H1 ⊢
           refine g_step rfl (s_val (v_assign rfl) rfl rfl ?_)
           refine g_nil ?_
           refine g_block_normal ?_
           refine g_next hK13 ?_
           refine g_region ?_
           refine g_step rfl (s_val (v_move rfl) rfl rfl ?_)
           refine g_step rfl (s_val (v_add rfl rfl (by omega)) rfl rfl ?_)
           refine g_step rfl (s_val (v_assign rfl) rfl rfl ?_)
           refine g_nil ?_
           first | refine g_keep [0, 3, 4, 5, 6, 7, 8] [] [] (keep_cons rfl (keep_cons rfl (keep_cons rfl (keep_cons rfl (keep_cons rfl (keep_cons rfl (keep_cons rfl keep_nil))))))) lkeep_nil keep_nil rfl ?_ | refine g_keep [0, 3, 4, 5, 6, 7, 8] [] [] rfl rfl rfl rfl ?_
           exact g_round _ (by omega) ⟨k + 1, (life + 1), po2, ro2, pn, rn, (fun _ => s0), o, a6, a7, out, back, _, hn, h6, h7, by omega, rfl, rfl, rfl, rfl, ⟨hO1, hI, hV6, hV7, hSep1, hs_H1, hInv.newOut, by omega⟩⟩
          ·
           try simp only [decide_eq_true_eq, decide_eq_false_iff_not, Bool.not_eq_true', Bool.not_eq_false', Bool.not_eq_eq_eq_not, Bool.not_true, Bool.not_false, Bool.and_eq_true, Bool.or_eq_true, Bool.or_eq_false_iff, beq_iff_eq, beq_eq_false_iff_ne, ne_eq, Int.not_lt, Int.not_le, Decidable.not_not] at hc206
           refine g_skip ?_
           refine g_block_normal ?_
           refine g_next hK13 ?_
           refine g_region ?_
           refine g_step rfl (s_val (v_move rfl) rfl rfl ?_)
           refine g_step rfl (s_val (v_add rfl rfl (by omega)) rfl rfl ?_)
           refine g_step rfl (s_val (v_assign rfl) rfl rfl ?_)
           refine g_nil ?_
           first | refine g_keep [0, 3, 4, 5, 6, 7, 8] [] [] (keep_cons rfl (keep_cons rfl (keep_cons rfl (keep_cons rfl (keep_cons rfl (keep_cons rfl (keep_cons rfl keep_nil))))))) lkeep_nil keep_nil rfl ?_ | refine g_keep [0, 3, 4, 5, 6, 7, 8] [] [] rfl rfl rfl rfl ?_
           exact g_round _ (by omega) ⟨k + 1, life, po, ro, pn, rn, f, o, a6, a7, out, back, ho, hn, h6, h7, by omega, rfl, rfl, rfl, rfl, ⟨hO, hI, hV6, hV7, hSep, hs_H, hInv.mono (by omega), by omega⟩⟩
      ·
       try simp only [decide_eq_true_eq, decide_eq_false_iff_not, Bool.not_eq_true', Bool.not_eq_false', Bool.not_eq_eq_eq_not, Bool.not_true, Bool.not_false, Bool.and_eq_true, Bool.or_eq_true, Bool.or_eq_false_iff, beq_iff_eq, beq_eq_false_iff_ne, ne_eq, Int.not_lt, Int.not_le, Decidable.not_not] at hg84
       refine g_step_no (j := 8) (t := 84) rfl rfl rfl rfl rfl rfl rfl ?_
       refine g_step_no (j := 8) (t := 84) rfl rfl rfl rfl rfl rfl rfl ?_
       refine g_step_no (j := 8) (t := 84) rfl rfl rfl rfl rfl rfl rfl ?_
       refine g_step_no (j := 8) (t := 84) rfl rfl rfl rfl rfl rfl rfl ?_
       refine g_step_no (j := 8) (t := 84) rfl rfl rfl rfl rfl rfl rfl ?_
       refine g_step rfl (s_val (v_pick_f rfl rfl) rfl rfl ?_)
       refine g_nil ?_
       refine g_next hK24 ?_
       first | refine g_keep [0, 3, 4, 5, 6, 7, 8, 90] [9] [9] (keep_cons rfl (keep_cons rfl (keep_cons rfl (keep_cons rfl (keep_cons rfl (keep_cons rfl (keep_cons rfl (keep_cons rfl keep_nil)))))))) (lkeep_cons rfl lkeep_nil) (keep_cons rfl keep_nil) rfl ?_ | refine g_keep [0, 3, 4, 5, 6, 7, 8, 90] [9] [9] rfl rfl rfl rfl ?_
       refine g_cond rfl (fun h => by cases h) (fun _ => ?_)
       refine g_seq (fun K47 hK47 => ?_)
       refine g_region ?_
       refine g_step rfl (s_fieldAddr ty96 fo96_0 ty3 rfl rfl ?_)
       refine g_step rfl (s_val (v_loadl ty3 rfl rfl rfl rfl) rfl rfl ?_)
       refine g_step rfl (s_val (v_eql rfl rfl) rfl rfl ?_)
       refine g_step rfl (s_val (v_move rfl) rfl rfl ?_)
       refine g_split 154 rfl (fun hg154 => ?_) (fun hg154 => ?_)
       ·
        try simp only [decide_eq_true_eq, decide_eq_false_iff_not, Bool.not_eq_true', Bool.not_eq_false', Bool.not_eq_eq_eq_not, Bool.not_true, Bool.not_false, Bool.and_eq_true, Bool.or_eq_true, Bool.or_eq_false_iff, beq_iff_eq, beq_eq_false_iff_ne, ne_eq, Int.not_lt, Int.not_le, Decidable.not_not] at hg154
        refine g_step_yes (j := 3) (t := 154) rfl rfl rfl rfl (s_fieldAddr ty96 fo96_1 ty3 rfl rfl ?_)
        refine g_step_yes (j := 3) (t := 154) rfl rfl rfl rfl (s_val (v_loadl ty3 rfl rfl rfl rfl) rfl rfl ?_)
        refine g_step_yes (j := 3) (t := 154) rfl rfl rfl rfl (s_val (v_geq rfl rfl) rfl rfl ?_)
        refine g_step rfl (s_val (v_pick_t rfl rfl) rfl rfl ?_)
        refine g_step rfl (s_val (v_move rfl) rfl rfl ?_)
        refine g_split 159 rfl (fun hg159 => ?_) (fun hg159 => ?_)
        ·
         try simp only [decide_eq_true_eq, decide_eq_false_iff_not, Bool.not_eq_true', Bool.not_eq_false', Bool.not_eq_eq_eq_not, Bool.not_true, Bool.not_false, Bool.and_eq_true, Bool.or_eq_true, Bool.or_eq_false_iff, beq_iff_eq, beq_eq_false_iff_ne, ne_eq, Int.not_lt, Int.not_le, Decidable.not_not] at hg159
         refine g_step_yes (j := 8) (t := 159) rfl rfl rfl rfl (s_fieldAddr ty96 fo96_1 ty3 rfl rfl ?_)
         refine g_step_yes (j := 8) (t := 159) rfl rfl rfl rfl (s_val (v_loadl ty3 rfl rfl rfl rfl) rfl rfl ?_)
         refine g_step_yes (j := 8) (t := 159) rfl rfl rfl rfl (s_val (v_move rfl) rfl rfl ?_)
         refine g_step_yes (j := 8) (t := 159) rfl rfl rfl rfl (s_val (v_len ty94 rfl hv7.view (show _ = back.length by rw [List.length_map])) rfl rfl ?_)
         refine g_step_yes (j := 8) (t := 159) rfl rfl rfl rfl (s_val (v_lss rfl rfl) rfl rfl ?_)
         refine g_step rfl (s_val (v_pick_t rfl rfl) rfl rfl ?_)
         refine g_nil ?_
         refine g_next hK47 ?_
         refine g_cond rfl (fun hc165 => ?_) (fun hc165 => ?_)
         ·
          try simp only [decide_eq_true_eq, decide_eq_false_iff_not, Bool.not_eq_true', Bool.not_eq_false', Bool.not_eq_eq_eq_not, Bool.not_true, Bool.not_false, Bool.and_eq_true, Bool.or_eq_true, Bool.or_eq_false_iff, beq_iff_eq, beq_eq_false_iff_ne, ne_eq, Int.not_lt, Int.not_le, Decidable.not_not] at hc165
          obtain ⟨j, hj⟩ := Int.eq_ofNat_of_zero_le (show 0 ≤ x.n by omega)
          obtain ⟨q, hq⟩ := get_some (l := back) (k := j) (by omega)
          refine g_seq (fun K48 hK48 => ?_)
          refine g_region ?_
          refine g_step rfl (s_val (v_move rfl) rfl rfl ?_)
          refine g_step rfl (s_fieldAddr ty96 fo96_1 ty3 rfl rfl ?_)
          refine g_step rfl (s_val (v_loadl ty3 rfl rfl rfl rfl) rfl rfl ?_)
          refine g_step rfl (s_val (v_indexAddr ty94 ty101 rfl rfl hv7.view hj (map_get hq) rfl) rfl rfl ?_)
          refine g_step rfl (s_val (by first | exact v_fieldAddr ty101 fo101_2 ty4 rfl | exact v_fieldAddr_box ty101 fo101_2 ty4 rfl) rfl rfl ?_)
          refine g_step rfl (s_val (by first | exact v_load ty4 rfl rfl hv7.view (map_get hq) rfl | exact v_load_box ty4 rfl rfl (by assumption) rfl) rfl rfl ?_)
          refine g_nil ?_
          refine g_next hK48 ?_
          first | refine g_keep [0, 3, 4, 5, 6, 7, 8, 171] [9] [9] (keep_cons rfl (keep_cons rfl (keep_cons rfl (keep_cons rfl (keep_cons rfl (keep_cons rfl (keep_cons rfl (keep_cons rfl keep_nil)))))))) (lkeep_cons rfl lkeep_nil) (keep_cons rfl keep_nil) rfl ?_ | refine g_keep [0, 3, 4, 5, 6, 7, 8, 171] [9] [9] rfl rfl rfl rfl ?_
          refine g_cond rfl (fun hc171 => ?_) (fun hc171 => ?_)
          ·
           try simp only [decide_eq_true_eq, decide_eq_false_iff_not, Bool.not_eq_true', Bool.not_eq_false', Bool.not_eq_eq_eq_not, Bool.not_true, Bool.not_false, Bool.and_eq_true, Bool.or_eq_true, Bool.or_eq_false_iff, beq_iff_eq, beq_eq_false_iff_ne, ne_eq, Int.not_lt, Int.not_le, Decidable.not_not] at hc171
           refine g_draw (n := 14) (fun j => !([13] : List Nat).contains j) rfl rfl ?_
           refine m_take 0 false rfl rfl (by kernel_rfl) (by kernel_rfl) (by kernel_rfl) (fun _ _ _ _ h => h) (v_move rfl) rfl rfl ?_
           refine m_take 1 false rfl rfl (by kernel_rfl) (by kernel_rfl) (by kernel_rfl) (fun _ _ _ _ h => h) (v_move rfl) rfl rfl ?_
           refine m_takel 2 rfl rfl (by kernel_rfl) (by kernel_rfl) (by kernel_rfl) (fun _ _ _ _ h => h) (vl_fieldAddr ty96 fo96_1 ty3 rfl) rfl rfl ?_
           refine m_take 3 true rfl rfl (by kernel_rfl) (by kernel_rfl) (by kernel_rfl) (fun _ _ _ _ h => h) (v_loadl ty3 rfl rfl rfl rfl) rfl rfl ?_
           refine m_take 4 false rfl rfl (by kernel_rfl) (by kernel_rfl) (by kernel_rfl) (fun _ _ _ _ h => h) (v_indexAddr ty94 ty101 rfl rfl hv7.view hj (map_get hq) rfl) rfl rfl ?_
           refine m_take 5 false rfl rfl (by kernel_rfl) (by kernel_rfl) (by kernel_rfl) (fun _ _ _ _ h => h) (by first | exact v_fieldAddr ty101 fo101_0 ty3 rfl | exact v_fieldAddr_box ty101 fo101_0 ty3 rfl) rfl rfl ?_
           refine m_take 6 true rfl rfl (by kernel_rfl) (by kernel_rfl) (by kernel_rfl) (fun _ _ _ _ h => h) (by first | exact v_load ty3 rfl rfl hv7.view (map_get hq) rfl | exact v_load_box ty3 rfl rfl (by assumption) rfl) rfl rfl ?_
           refine m_take 7 false rfl rfl (by kernel_rfl) (by kernel_rfl) (by kernel_rfl) (fun _ _ _ _ h => h) (v_move rfl) rfl rfl ?_
           refine m_takel 8 rfl rfl (by kernel_rfl) (by kernel_rfl) (by kernel_rfl) (fun _ _ _ _ h => h) (vl_fieldAddr ty96 fo96_1 ty3 rfl) rfl rfl ?_
           refine m_take 9 true rfl rfl (by kernel_rfl) (by kernel_rfl) (by kernel_rfl) (fun _ _ _ _ h => h) (v_loadl ty3 rfl rfl rfl rfl) rfl rfl ?_
           refine m_take 10 false rfl rfl (by kernel_rfl) (by kernel_rfl) (by kernel_rfl) (fun _ _ _ _ h => h) (v_indexAddr ty94 ty101 rfl rfl hv7.view hj (map_get hq) rfl) rfl rfl ?_
           refine m_take 11 false rfl rfl (by kernel_rfl) (by kernel_rfl) (by kernel_rfl) (fun _ _ _ _ h => h) (by first | exact v_fieldAddr ty101 fo101_1 ty3 rfl | exact v_fieldAddr_box ty101 fo101_1 ty3 rfl) rfl rfl ?_
           refine m_take 12 true rfl rfl (by kernel_rfl) (by kernel_rfl) (by kernel_rfl) (fun _ _ _ _ h => h) (by first | exact v_load ty3 rfl rfl hv7.view (map_get hq) rfl | exact v_load_box ty3 rfl rfl (by assumption) rfl) rfl rfl ?_
           refine m_one 13 (by kernel_rfl) rfl rfl ?_
           refine sm_any rfl (s_call rfl rfl rfl (oAcked_ok ho po ro life f 0 q.life q.epoch _ hO hso (hInv.okS (by omega))) (fun b hb => .inr (hao b hb)) ?_)
           rintro n6 v6 effs6 hn6 hdom6 ⟨hv6, h1, hE6, hX1⟩ hok6
           skip
           have hSep1 : Sep w0.heap.size _ [h1, hn, h6, h7] := (show Sep w0.heap.size _ ([] ++ _ :: _) from hSep).turn hE6 hn6 hdom6
           have hs_H1 := hE6.frame hdom6 hs_H (fun b hb => hw0 b (hao b hb))
           generalize hG1 : setAll G effs6 = G1 at hSep1 hs_H1 ⊢
           refine m_done (by kernel_rfl) ?_
           refine g_block_normal ?_
           refine g_next hK13 ?_
           refine g_region ?_
           refine g_step rfl (s_val (v_move rfl) rfl rfl ?_)
           refine g_step rfl (s_val (v_add rfl rfl (by omega)) rfl rfl ?_)
           refine g_step rfl (s_val (v_assign rfl) rfl rfl ?_)
           refine g_nil ?_
           first | refine g_keep [0, 3, 4, 5, 6, 7, 8] [] [] (keep_cons rfl (keep_cons rfl (keep_cons rfl (keep_cons rfl (keep_cons rfl (keep_cons rfl (keep_cons rfl keep_nil))))))) lkeep_nil keep_nil rfl ?_ | refine g_keep [0, 3, 4, 5, 6, 7, 8] [] [] rfl rfl rfl rfl ?_
           exact g_round _ (by omega) ⟨k + 1, life, po, ro, pn, rn, upd f 0 (if q.life = life then ackF (f 0) q.epoch else f 0), o, a6, a7, out, back, h1, hn, h6, h7, by omega, rfl, rfl, rfl, rfl, ⟨hX1, hI, hV6, hV7, hSep1, hs_H1, by rw [upd_at]; split; exact (hInv.ack _).mono (by omega); exact hInv.mono (by omega), by omega⟩⟩
          ·
           try simp only [decide_eq_true_eq, decide_eq_false_iff_not, Bool.not_eq_true', Bool.not_eq_false', Bool.not_eq_eq_eq_not, Bool.not_true, Bool.not_false, Bool.and_eq_true, Bool.or_eq_true, Bool.or_eq_false_iff, beq_iff_eq, beq_eq_false_iff_ne, ne_eq, Int.not_lt, Int.not_le, Decidable.not_not] at hc171
           refine g_draw (n := 14) (fun j => !([13] : List Nat).contains j) rfl rfl ?_
           refine m_take 0 false rfl rfl (by kernel_rfl) (by kernel_rfl) (by kernel_rfl) (fun _ _ _ _ h => h) (v_move rfl) rfl rfl ?_
           refine m_take 1 false rfl rfl (by kernel_rfl) (by kernel_rfl) (by kernel_rfl) (fun _ _ _ _ h => h) (v_move rfl) rfl rfl ?_
           refine m_takel 2 rfl rfl (by kernel_rfl) (by kernel_rfl) (by kernel_rfl) (fun _ _ _ _ h => h) (vl_fieldAddr ty96 fo96_1 ty3 rfl) rfl rfl ?_
           refine m_take 3 true rfl rfl (by kernel_rfl) (by kernel_rfl) (by kernel_rfl) (fun _ _ _ _ h => h) (v_loadl ty3 rfl rfl rfl rfl) rfl rfl ?_
           refine m_take 4 false rfl rfl (by kernel_rfl) (by kernel_rfl) (by kernel_rfl) (fun _ _ _ _ h => h) (v_indexAddr ty94 ty101 rfl rfl hv7.view hj (map_get hq) rfl) rfl rfl ?_
           refine m_take 5 false rfl rfl (by kernel_rfl) (by kernel_rfl) (by kernel_rfl) (fun _ _ _ _ h => h) (by first | exact v_fieldAddr ty101 fo101_0 ty3 rfl | exact v_fieldAddr_box ty101 fo101_0 ty3 rfl) rfl rfl ?_
           refine m_take 6 true rfl rfl (by kernel_rfl) (by kernel_rfl) (by kernel_rfl) (fun _ _ _ _ h => h) (by first | exact v_load ty3 rfl rfl hv7.view (map_get hq) rfl | exact v_load_box ty3 rfl rfl (by assumption) rfl) rfl rfl ?_
           refine m_take 7 false rfl rfl (by kernel_rfl) (by kernel_rfl) (by kernel_rfl) (fun _ _ _ _ h => h) (v_move rfl) rfl rfl ?_
           refine m_takel 8 rfl rfl (by kernel_rfl) (by kernel_rfl) (by kernel_rfl) (fun _ _ _ _ h => h) (vl_fieldAddr ty96 fo96_1 ty3 rfl) rfl rfl ?_
           refine m_take 9 true rfl rfl (by kernel_rfl) (by kernel_rfl) (by kernel_rfl) (fun _ _ _ _ h => h) (v_loadl ty3 rfl rfl rfl rfl) rfl rfl ?_
           refine m_take 10 false rfl rfl (by kernel_rfl) (by kernel_rfl) (by kernel_rfl) (fun _ _ _ _ h => h) (v_indexAddr ty94 ty101 rfl rfl hv7.view hj (map_get hq) rfl) rfl rfl ?_
           refine m_take 11 false rfl rfl (by kernel_rfl) (by kernel_rfl) (by kernel_rfl) (fun _ _ _ _ h => h) (by first | exact v_fieldAddr ty101 fo101_1 ty3 rfl | exact v_fieldAddr_box ty101 fo101_1 ty3 rfl) rfl rfl ?_
           refine m_take 12 true rfl rfl (by kernel_rfl) (by kernel_rfl) (by kernel_rfl) (fun _ _ _ _ h => h) (by first | exact v_load ty3 rfl rfl hv7.view (map_get hq) rfl | exact v_load_box ty3 rfl rfl (by assumption) rfl) rfl rfl ?_
           refine m_one 13 (by kernel_rfl) rfl rfl ?_
           refine sm_any rfl (s_call rfl rfl rfl (oLacked_ok ho po ro life f 0 q.life q.epoch _ hO hso (hInv.okS (by omega))) (fun b hb => .inr (hao b hb)) ?_)
           rintro n7 v7 effs7 hn7 hdom7 ⟨hv7, h1, hE7, hX1⟩ hok7
           skip
           have hSep1 : Sep w0.heap.size _ [h1, hn, h6, h7] := (show Sep w0.heap.size _ ([] ++ _ :: _) from hSep).turn hE7 hn7 hdom7
           have hs_H1 := hE7.frame hdom7 hs_H (fun b hb => hw0 b (hao b hb))
           generalize hG1 : setAll G effs7 = G1 at hSep1 hs_H1 ⊢
           refine m_done (by kernel_rfl) ?_
           refine g_block_normal ?_
           refine g_next hK13 ?_
           refine g_region ?_
           refine g_step rfl (s_val (v_move rfl) rfl rfl ?_)
           refine g_step rfl (s_val (v_add rfl rfl (by omega)) rfl rfl ?_)
           refine g_step rfl (s_val (v_assign rfl) rfl rfl ?_)
           refine g_nil ?_
           first | refine g_keep [0, 3, 4, 5, 6, 7, 8] [] [] (keep_cons rfl (keep_cons rfl (keep_cons rfl (keep_cons rfl (keep_cons rfl (keep_cons rfl (keep_cons rfl keep_nil))))))) lkeep_nil keep_nil rfl ?_ | refine g_keep [0, 3, 4, 5, 6, 7, 8] [] [] rfl rfl rfl rfl ?_
           exact g_round _ (by omega) ⟨k + 1, life, po, ro, pn, rn, upd f 0 (if q.life = life then lackF (f 0) q.epoch else f 0), o, a6, a7, out, back, h1, hn, h6, h7, by omega, rfl, rfl, rfl, rfl, ⟨hX1, hI, hV6, hV7, hSep1, hs_H1, by rw [upd_at]; split; exact (hInv.lack _).mono (by omega); exact hInv.mono (by omega), by omega⟩⟩
         ·
          try simp only [decide_eq_true_eq, decide_eq_false_iff_not, Bool.not_eq_true', Bool.not_eq_false', Bool.not_eq_eq_eq_not, Bool.not_true, Bool.not_false, Bool.and_eq_true, Bool.or_eq_true, Bool.or_eq_false_iff, beq_iff_eq, beq_eq_false_iff_ne, ne_eq, Int.not_lt, Int.not_le, Decidable.not_not] at hc165
          refine g_seq (fun K49 hK49 => ?_)
          refine g_region ?_
          refine g_step rfl (s_fieldAddr ty96 fo96_0 ty3 rfl rfl ?_)
          refine g_step rfl (s_val (v_loadl ty3 rfl rfl rfl rfl) rfl rfl ?_)
          refine g_step rfl (s_val (v_eql rfl rfl) rfl rfl ?_)
          refine g_nil ?_
          refine g_next hK49 ?_
          refine g_cond rfl (fun hc202 => ?_) (fun hc202 => ?_)
          ·
           try simp only [decide_eq_true_eq, decide_eq_false_iff_not, Bool.not_eq_true', Bool.not_eq_false', Bool.not_eq_eq_eq_not, Bool.not_true, Bool.not_false, Bool.and_eq_true, Bool.or_eq_true, Bool.or_eq_false_iff, beq_iff_eq, beq_eq_false_iff_ne, ne_eq, Int.not_lt, Int.not_le, Decidable.not_not] at hc202
           refine g_region ?_
           refine g_step rfl (s_call rfl rfl rfl (pushed_ok _) (fun _ h => h.elim) ?_)
           rintro n8 _ effs8 hn8 hdom8 ⟨pn2, rn2, hp8, hr8, hpr8, rfl, rfl⟩ hok8
           have hE8 := empty_eff (x := bmRow []) (y := .box (.agg [.map rn2])) hp8 hr8
           have hSep2 : Sep w0.heap.size _ [ho, ((AHeap.set noH rn2 (bmRow [])).set pn2 (.box (.agg [.map rn2]))), h6, h7] := (show Sep w0.heap.size _ ([ho] ++ _ :: _) from hSep).fresh hE8 hn8 hdom8
           have hI2 : InIs ((AHeap.set noH rn2 (bmRow [])).set pn2 (.box (.agg [.map rn2]))) pn2 rn2 (fun _ => none) := ⟨[], _, PA.empty (h0 := noH) hpr8, fun _ _ h => by cases h⟩
           have hs_H2 := hE8.frame hdom8 hs_H (fun b hb => absurd rfl hb)
           generalize hG2 : setAll G _ = G2 at hSep2 hs_H2 ⊢
           refine g_step rfl (s_val (v_assign rfl) rfl rfl ?_)
           refine g_nil ?_
           refine g_block_normal ?_
           refine g_next hK13 ?_
           refine g_region ?_
           refine g_step rfl (s_val (v_move rfl) rfl rfl ?_)
           refine g_step rfl (s_val (v_add rfl rfl (by omega)) rfl rfl ?_)
           refine g_step rfl (s_val (v_assign rfl) rfl rfl ?_)
           refine g_nil ?_
           first | refine g_keep [0, 3, 4, 5, 6, 7, 8] [] [] (keep_cons rfl (keep_cons rfl (keep_cons rfl (keep_cons rfl (keep_cons rfl (keep_cons rfl (keep_cons rfl keep_nil))))))) lkeep_nil keep_nil rfl ?_ | refine g_keep [0, 3, 4, 5, 6, 7, 8] [] [] rfl rfl rfl rfl ?_
           exact g_round _ (by omega) ⟨k + 1, life, po, ro, pn2, rn2, f, (fun _ => none), a6, a7, out, back, ho, _, h6, h7, by omega, rfl, rfl, rfl, rfl, ⟨hO, hI2, hV6, hV7, hSep2, hs_H2, hInv.newIn.mono (by omega), by omega⟩⟩
          ·
           try simp only [decide_eq_true_eq, decide_eq_false_iff_not, Bool.not_eq_true', Bool.not_eq_false', Bool.not_eq_eq_eq_not, Bool.not_true, Bool.not_false, Bool.and_eq_true, Bool.or_eq_true, Bool.or_eq_false_iff, beq_iff_eq, beq_eq_false_iff_ne, ne_eq, Int.not_lt, Int.not_le, Decidable.not_not] at hc202
           refine g_seq (fun K50 hK50 => ?_)
           refine g_region ?_
           refine g_step rfl (s_fieldAddr ty96 fo96_0 ty3 rfl rfl ?_)
           refine g_step rfl (s_val (v_loadl ty3 rfl rfl rfl rfl) rfl rfl ?_)
           refine g_step rfl (s_val (v_eql rfl rfl) rfl rfl ?_)
           refine g_nil ?_
           refine g_next hK50 ?_
           refine g_cond rfl (fun hc206 => ?_) (fun hc206 => ?_)
           ·
            try simp only [decide_eq_true_eq, decide_eq_false_iff_not, Bool.not_eq_true', Bool.not_eq_false', Bool.not_eq_eq_eq_not, Bool.not_true, Bool.not_false, Bool.and_eq_true, Bool.or_eq_true, Bool.or_eq_false_iff, beq_iff_eq, beq_eq_false_iff_ne, ne_eq, Int.not_lt, Int.not_le, Decidable.not_not] at hc206
            refine g_seq (fun K51 hK51 => ?_)
            refine g_region ?_
            refine g_step rfl (s_val (v_move rfl) rfl rfl ?_)
            refine g_step rfl (s_val (v_add rfl rfl (by omega)) rfl rfl ?_)
            refine g_step rfl (s_val (v_assign rfl) rfl rfl ?_)
            refine g_nil ?_
            refine g_next hK51 ?_
            first | refine g_keep [0, 3, 5, 6, 7, 8] [] [] (keep_cons rfl (keep_cons rfl (keep_cons rfl (keep_cons rfl (keep_cons rfl (keep_cons rfl keep_nil)))))) lkeep_nil keep_nil rfl ?_ | refine g_keep [0, 3, 5, 6, 7, 8] [] [] rfl rfl rfl rfl ?_
            refine g_region ?_
            refine g_step rfl (s_val (v_move rfl) rfl rfl ?_)
            refine g_step rfl (s_call rfl rfl rfl (pushing_ok (life + 1) _) (fun _ h => h.elim) ?_)
            rintro n9 _ effs9 hn9 hdom9 ⟨po2, ro2, hp9, hr9, hpr9, rfl, rfl⟩ hok9
            have hE9 := empty_eff (x := bmRow []) (y := .box (.agg [.int .i64 (life + 1), .map ro2])) hp9 hr9
            have hSep1 : Sep w0.heap.size _ [((AHeap.set noH ro2 (bmRow [])).set po2 (.box (.agg [.int .i64 (life + 1), .map ro2]))), hn, h6, h7] := (show Sep w0.heap.size _ ([] ++ _ :: _) from hSep).fresh hE9 hn9 hdom9
            have hO1 : OutIs ((AHeap.set noH ro2 (bmRow [])).set po2 (.box (.agg [.int .i64 (life + 1), .map ro2]))) po2 ro2 (life + 1) (fun _ => s0) := ⟨[], _, PA.empty (h0 := noH) hpr9⟩
            have hs_H1 := hE9.frame hdom9 hs_H (fun b hb => absurd rfl hb)
            generalize hG1 : setAll G _ = G1 at hSep1 hs_H1 ⊢
            refine g_step rfl (s_val (v_assign rfl) rfl rfl ?_)
            refine g_nil ?_
            refine g_block_normal ?_
            refine g_next hK13 ?_
            refine g_region ?_
            refine g_step rfl (s_val (v_move rfl) rfl rfl ?_)
            refine g_step rfl (s_val (v_add rfl rfl (by omega)) rfl rfl ?_)
            refine g_step rfl (s_val (v_assign rfl) rfl rfl ?_)
            refine g_nil ?_
            first | refine g_keep [0, 3, 4, 5, 6, 7, 8] [] [] (keep_cons rfl (keep_cons rfl (keep_cons rfl (keep_cons rfl (keep_cons rfl (keep_cons rfl (keep_cons rfl keep_nil))))))) lkeep_nil keep_nil rfl ?_ | refine g_keep [0, 3, 4, 5, 6, 7, 8] [] [] rfl rfl rfl rfl ?_
            exact g_round _ (by omega) ⟨k + 1, (life + 1), po2, ro2, pn, rn, (fun _ => s0), o, a6, a7, out, back, _, hn, h6, h7, by omega, rfl, rfl, rfl, rfl, ⟨hO1, hI, hV6, hV7, hSep1, hs_H1, hInv.newOut, by omega⟩⟩
           ·
            try simp only [decide_eq_true_eq, decide_eq_false_iff_not, Bool.not_eq_true', Bool.not_eq_false', Bool.not_eq_eq_eq_not, Bool.not_true, Bool.not_false, Bool.and_eq_true, Bool.or_eq_true, Bool.or_eq_false_iff, beq_iff_eq, beq_eq_false_iff_ne, ne_eq, Int.not_lt, Int.not_le, Decidable.not_not] at hc206
            refine g_skip ?_
            refine g_block_normal ?_
            refine g_next hK13 ?_
            refine g_region ?_
            refine g_step rfl (s_val (v_move rfl) rfl rfl ?_)
            refine g_step rfl (s_val (v_add rfl rfl (by omega)) rfl rfl ?_)
            refine g_step rfl (s_val (v_assign rfl) rfl rfl ?_)
            refine g_nil ?_
            first | refine g_keep [0, 3, 4, 5, 6, 7, 8] [] [] (keep_cons rfl (keep_cons rfl (keep_cons rfl (keep_cons rfl (keep_cons rfl (keep_cons rfl (keep_cons rfl keep_nil))))))) lkeep_nil keep_nil rfl ?_ | refine g_keep [0, 3, 4, 5, 6, 7, 8] [] [] rfl rfl rfl rfl ?_
            exact g_round _ (by omega) ⟨k + 1, life, po, ro, pn, rn, f, o, a6, a7, out, back, ho, hn, h6, h7, by omega, rfl, rfl, rfl, rfl, ⟨hO, hI, hV6, hV7, hSep, hs_H, hInv.mono (by omega), by omega⟩⟩
        ·
         try simp only [decide_eq_true_eq, decide_eq_false_iff_not, Bool.not_eq_true', Bool.not_eq_false', Bool.not_eq_eq_eq_not, Bool.not_true, Bool.not_false, Bool.and_eq_true, Bool.or_eq_true, Bool.or_eq_false_iff, beq_iff_eq, beq_eq_false_iff_ne, ne_eq, Int.not_lt, Int.not_le, Decidable.not_not] at hg159
         refine g_step_no (j := 8) (t := 159) rfl rfl rfl rfl rfl rfl rfl ?_
         refine g_step_no (j := 8) (t := 159) rfl rfl rfl rfl rfl rfl rfl ?_
         refine g_step_no (j := 8) (t := 159) rfl rfl rfl rfl rfl rfl rfl ?_
         refine g_step_no (j := 8) (t := 159) rfl rfl rfl rfl rfl rfl rfl ?_
         refine g_step_no (j := 8) (t := 159) rfl rfl rfl rfl rfl rfl rfl ?_
         refine g_step rfl (s_val (v_pick_f rfl rfl) rfl rfl ?_)
         refine g_nil ?_
         refine g_next hK47 ?_
         refine g_cond rfl (fun h => by cases h) (fun _ => ?_)
         refine g_seq (fun K52 hK52 => ?_)
         refine g_region ?_
         refine g_step rfl (s_fieldAddr ty96 fo96_0 ty3 rfl rfl ?_)
         refine g_step rfl (s_val (v_loadl ty3 rfl rfl rfl rfl) rfl rfl ?_)
         refine g_step rfl (s_val (v_eql rfl rfl) rfl rfl ?_)
         refine g_nil ?_
         refine g_next hK52 ?_
         refine g_cond rfl (fun hc202 => ?_) (fun hc202 => ?_)
         ·
          try simp only [decide_eq_true_eq, decide_eq_false_iff_not, Bool.not_eq_true', Bool.not_eq_false', Bool.not_eq_eq_eq_not, Bool.not_true, Bool.not_false, Bool.and_eq_true, Bool.or_eq_true, Bool.or_eq_false_iff, beq_iff_eq, beq_eq_false_iff_ne, ne_eq, Int.not_lt, Int.not_le, Decidable.not_not] at hc202
          refine g_region ?_
          refine g_step rfl (s_call rfl rfl rfl (pushed_ok _) (fun _ h => h.elim) ?_)
          rintro n8 _ effs8 hn8 hdom8 ⟨pn2, rn2, hp8, hr8, hpr8, rfl, rfl⟩ hok8
          have hE8 := empty_eff (x := bmRow []) (y := .box (.agg [.map rn2])) hp8 hr8
          have hSep2 : Sep w0.heap.size _ [ho, ((AHeap.set noH rn2 (bmRow [])).set pn2 (.box (.agg [.map rn2]))), h6, h7] := (show Sep w0.heap.size _ ([ho] ++ _ :: _) from hSep).fresh hE8 hn8 hdom8
          have hI2 : InIs ((AHeap.set noH rn2 (bmRow [])).set pn2 (.box (.agg [.map rn2]))) pn2 rn2 (fun _ => none) := ⟨[], _, PA.empty (h0 := noH) hpr8, fun _ _ h => by cases h⟩
          have hs_H2 := hE8.frame hdom8 hs_H (fun b hb => absurd rfl hb)
          generalize hG2 : setAll G _ = G2 at hSep2 hs_H2 ⊢
          refine g_step rfl (s_val (v_assign rfl) rfl rfl ?_)
          refine g_nil ?_
          refine g_block_normal ?_
          refine g_next hK13 ?_
          refine g_region ?_
          refine g_step rfl (s_val (v_move rfl) rfl rfl ?_)
          refine g_step rfl (s_val (v_add rfl rfl (by omega)) rfl rfl ?_)
          refine g_step rfl (s_val (v_assign rfl) rfl rfl ?_)
          refine g_nil ?_
          first | refine g_keep [0, 3, 4, 5, 6, 7, 8] [] [] (keep_cons rfl (keep_cons rfl (keep_cons rfl (keep_cons rfl (keep_cons rfl (keep_cons rfl (keep_cons rfl keep_nil))))))) lkeep_nil keep_nil rfl ?_ | refine g_keep [0, 3, 4, 5, 6, 7, 8] [] [] rfl rfl rfl rfl ?_
          exact g_round _ (by omega) ⟨k + 1, life, po, ro, pn2, rn2, f, (fun _ => none), a6, a7, out, back, ho, _, h6, h7, by omega, rfl, rfl, rfl, rfl, ⟨hO, hI2, hV6, hV7, hSep2, hs_H2, hInv.newIn.mono (by omega), by omega⟩⟩
         ·
          try simp only [decide_eq_true_eq, decide_eq_false_iff_not, Bool.not_eq_true', Bool.not_eq_false', Bool.not_eq_eq_eq_not, Bool.not_true, Bool.not_false, Bool.and_eq_true, Bool.or_eq_true, Bool.or_eq_false_iff, beq_iff_eq, beq_eq_false_iff_ne, ne_eq, Int.not_lt, Int.not_le, Decidable.not_not] at hc202
          refine g_seq (fun K53 hK53 => ?_)
          refine g_region ?_
          refine g_step rfl (s_fieldAddr ty96 fo96_0 ty3 rfl rfl ?_)
          refine g_step rfl (s_val (v_loadl ty3 rfl rfl rfl rfl) rfl rfl ?_)
          refine g_step rfl (s_val (v_eql rfl rfl) rfl rfl ?_)
          refine g_nil ?_
          refine g_next hK53 ?_
          first | refine g_keep [0, 3, 4, 5, 6, 7, 8, 206] [] [] (keep_cons rfl (keep_cons rfl (keep_cons rfl (keep_cons rfl (keep_cons rfl (keep_cons rfl (keep_cons rfl (keep_cons rfl keep_nil)))))))) lkeep_nil keep_nil rfl ?_ | refine g_keep [0, 3, 4, 5, 6, 7, 8, 206] [] [] rfl rfl rfl rfl ?_
          refine g_cond rfl (fun hc206 => ?_) (fun hc206 => ?_)
          ·
           try simp only [decide_eq_true_eq, decide_eq_false_iff_not, Bool.not_eq_true', Bool.not_eq_false', Bool.not_eq_eq_eq_not, Bool.not_true, Bool.not_false, Bool.and_eq_true, Bool.or_eq_true, Bool.or_eq_false_iff, beq_iff_eq, beq_eq_false_iff_ne, ne_eq, Int.not_lt, Int.not_le, Decidable.not_not] at hc206
           refine g_seq (fun K54 hK54 => ?_)
           refine g_region ?_
           refine g_step rfl (s_val (v_move rfl) rfl rfl ?_)
           refine g_step rfl (s_val (v_add rfl rfl (by omega)) rfl rfl ?_)
           refine g_step rfl (s_val (v_assign rfl) rfl rfl ?_)
           refine g_nil ?_
           refine g_next hK54 ?_
           refine g_region ?_
           refine g_step rfl (s_val (v_move rfl) rfl rfl ?_)
           refine g_step rfl (s_call rfl rfl rfl (pushing_ok (life + 1) _) (fun _ h => h.elim) ?_)
           rintro n9 _ effs9 hn9 hdom9 ⟨po2, ro2, hp9, hr9, hpr9, rfl, rfl⟩ hok9
           have hE9 := empty_eff (x := bmRow []) (y := .box (.agg [.int .i64 (life + 1), .map ro2])) hp9 hr9
           have hSep1 : Sep w0.heap.size _ [((AHeap.set noH ro2 (bmRow [])).set po2 (.box (.agg [.int .i64 (life + 1), .map ro2]))), hn, h6, h7] := (show Sep w0.heap.size _ ([] ++ _ :: _) from hSep).fresh hE9 hn9 hdom9
           have hO1 : OutIs ((AHeap.set noH ro2 (bmRow [])).set po2 (.box (.agg [.int .i64 (life + 1), .map ro2]))) po2 ro2 (life + 1) (fun _ => s0) := ⟨[], _, PA.empty (h0 := noH) hpr9⟩
           have hs_H1 := hE9.frame hdom9 hs_H (fun b hb => absurd rfl hb)
           generalize hG1 : setAll G _ = G1 at hSep1 hs_H1 ⊢
           refine g_step rfl (s_val (v_assign rfl) rfl rfl ?_)
           refine g_nil ?_
           refine g_block_normal ?_
           refine g_next hK13 ?_
           refine g_region ?_
           refine g_step rfl (s_val (v_move rfl) rfl rfl ?_)
           refine g_step rfl (s_val (v_add rfl rfl (by omega)) rfl rfl ?_)
           refine g_step rfl (s_val (v_assign rfl) rfl rfl ?_)
           refine g_nil ?_
           first | refine g_keep [0, 3, 4, 5, 6, 7, 8] [] [] (keep_cons rfl (keep_cons rfl (keep_cons rfl (keep_cons rfl (keep_cons rfl (keep_cons rfl (keep_cons rfl keep_nil))))))) lkeep_nil keep_nil rfl ?_ | refine g_keep [0, 3, 4, 5, 6, 7, 8] [] [] rfl rfl rfl rfl ?_
           exact g_round _ (by omega) ⟨k + 1, (life + 1), po2, ro2, pn, rn, (fun _ => s0), o, a6, a7, out, back, _, hn, h6, h7, by omega, rfl, rfl, rfl, rfl, ⟨hO1, hI, hV6, hV7, hSep1, hs_H1, hInv.newOut, by omega⟩⟩
          ·
           try simp only [decide_eq_true_eq, decide_eq_false_iff_not, Bool.not_eq_true', Bool.not_eq_false', Bool.not_eq_eq_eq_not, Bool.not_true, Bool.not_false, Bool.and_eq_true, Bool.or_eq_true, Bool.or_eq_false_iff, beq_iff_eq, beq_eq_false_iff_ne, ne_eq, Int.not_lt, Int.not_le, Decidable.not_not] at hc206
           refine g_skip ?_
           refine g_block_normal ?_
           refine g_next hK13 ?_
           refine g_region ?_
           refine g_step rfl (s_val (v_move rfl) rfl rfl ?_)
           refine g_step rfl (s_val (v_add rfl rfl (by omega)) rfl rfl ?_)
           refine g_step rfl (s_val (v_assign rfl) rfl rfl ?_)
           refine g_nil ?_
           first | refine g_keep [0, 3, 4, 5, 6, 7, 8] [] [] (keep_cons rfl (keep_cons rfl (keep_cons rfl (keep_cons rfl (keep_cons rfl (keep_cons rfl (keep_cons rfl keep_nil))))))) lkeep_nil keep_nil rfl ?_ | refine g_keep [0, 3, 4, 5, 6, 7, 8] [] [] rfl rfl rfl rfl ?_
           exact g_round _ (by omega) ⟨k + 1, life, po, ro, pn, rn, f, o, a6, a7, out, back, ho, hn, h6, h7, by omega, rfl, rfl, rfl, rfl, ⟨hO, hI, hV6, hV7, hSep, hs_H, hInv.mono (by omega), by omega⟩⟩
       ·
        try simp only [decide_eq_true_eq, decide_eq_false_iff_not, Bool.not_eq_true', Bool.not_eq_false', Bool.not_eq_eq_eq_not, Bool.not_true, Bool.not_false, Bool.and_eq_true, Bool.or_eq_true, Bool.or_eq_false_iff, beq_iff_eq, beq_eq_false_iff_ne, ne_eq, Int.not_lt, Int.not_le, Decidable.not_not] at hg154
        refine g_step_no (j := 3) (t := 154) rfl rfl rfl rfl rfl rfl rfl ?_
        refine g_step_no (j := 3) (t := 154) rfl rfl rfl rfl rfl rfl rfl ?_
        refine g_step_no (j := 3) (t := 154) rfl rfl rfl rfl rfl rfl rfl ?_
        refine g_step rfl (s_val (v_pick_f rfl rfl) rfl rfl ?_)
        refine g_step rfl (s_val (v_move rfl) rfl rfl ?_)
        refine g_step_no (j := 8) (t := 159) rfl rfl rfl rfl rfl rfl rfl ?_
        refine g_step_no (j := 8) (t := 159) rfl rfl rfl rfl rfl rfl rfl ?_
        refine g_step_no (j := 8) (t := 159) rfl rfl rfl rfl rfl rfl rfl ?_
        refine g_step_no (j := 8) (t := 159) rfl rfl rfl rfl rfl rfl rfl ?_
        refine g_step_no (j := 8) (t := 159) rfl rfl rfl rfl rfl rfl rfl ?_
        refine g_step rfl (s_val (v_pick_f rfl rfl) rfl rfl ?_)
        refine g_nil ?_
        refine g_next hK47 ?_
        refine g_cond rfl (fun h => by cases h) (fun _ => ?_)
        refine g_seq (fun K55 hK55 => ?_)
        refine g_region ?_
        refine g_step rfl (s_fieldAddr ty96 fo96_0 ty3 rfl rfl ?_)
        refine g_step rfl (s_val (v_loadl ty3 rfl rfl rfl rfl) rfl rfl ?_)
        refine g_step rfl (s_val (v_eql rfl rfl) rfl rfl ?_)
        refine g_nil ?_
        refine g_next hK55 ?_
        refine g_cond rfl (fun hc202 => ?_) (fun hc202 => ?_)
        ·
         try simp only [decide_eq_true_eq, decide_eq_false_iff_not, Bool.not_eq_true', Bool.not_eq_false', Bool.not_eq_eq_eq_not, Bool.not_true, Bool.not_false, Bool.and_eq_true, Bool.or_eq_true, Bool.or_eq_false_iff, beq_iff_eq, beq_eq_false_iff_ne, ne_eq, Int.not_lt, Int.not_le, Decidable.not_not] at hc202
         refine g_region ?_
         refine g_step rfl (s_call rfl rfl rfl (pushed_ok _) (fun _ h => h.elim) ?_)
         rintro n8 _ effs8 hn8 hdom8 ⟨pn2, rn2, hp8, hr8, hpr8, rfl, rfl⟩ hok8
         have hE8 := empty_eff (x := bmRow []) (y := .box (.agg [.map rn2])) hp8 hr8
         have hSep2 : Sep w0.heap.size _ [ho, ((AHeap.set noH rn2 (bmRow [])).set pn2 (.box (.agg [.map rn2]))), h6, h7] := (show Sep w0.heap.size _ ([ho] ++ _ :: _) from hSep).fresh hE8 hn8 hdom8
         have hI2 : InIs ((AHeap.set noH rn2 (bmRow [])).set pn2 (.box (.agg [.map rn2]))) pn2 rn2 (fun _ => none) := ⟨[], _, PA.empty (h0 := noH) hpr8, fun _ _ h => by cases h⟩
         have hs_H2 := hE8.frame hdom8 hs_H (fun b hb => absurd rfl hb)
         generalize hG2 : setAll G _ = G2 at hSep2 hs_H2 ⊢
         refine g_step rfl (s_val (v_assign rfl) rfl rfl ?_)
         refine g_nil ?_
         refine g_block_normal ?_
         refine g_next hK13 ?_
         first | refine g_keep [0, 3, 4, 5, 6, 7, 8] [] [] (keep_cons rfl (keep_cons rfl (keep_cons rfl (keep_cons rfl (keep_cons rfl (keep_cons rfl (keep_cons rfl keep_nil))))))) lkeep_nil keep_nil rfl ?_ | refine g_keep [0, 3, 4, 5, 6, 7, 8] [] [] rfl rfl rfl rfl ?_
         refine g_region ?_
         refine g_step rfl (s_val (v_move rfl) rfl rfl ?_)
         refine g_step rfl (s_val (v_add rfl rfl (by omega)) rfl rfl ?_)
         refine g_step rfl (s_val (v_assign rfl) rfl rfl ?_)
         refine g_nil ?_
         first | refine g_keep [0, 3, 4, 5, 6, 7, 8] [] [] (keep_cons rfl (keep_cons rfl (keep_cons rfl (keep_cons rfl (keep_cons rfl (keep_cons rfl (keep_cons rfl keep_nil))))))) lkeep_nil keep_nil rfl ?_ | refine g_keep [0, 3, 4, 5, 6, 7, 8] [] [] rfl rfl rfl rfl ?_
         exact g_round _ (by omega) ⟨k + 1, life, po, ro, pn2, rn2, f, (fun _ => none), a6, a7, out, back, ho, _, h6, h7, by omega, rfl, rfl, rfl, rfl, ⟨hO, hI2, hV6, hV7, hSep2, hs_H2, hInv.newIn.mono (by omega), by omega⟩⟩
        ·
         try simp only [decide_eq_true_eq, decide_eq_false_iff_not, Bool.not_eq_true', Bool.not_eq_false', Bool.not_eq_eq_eq_not, Bool.not_true, Bool.not_false, Bool.and_eq_true, Bool.or_eq_true, Bool.or_eq_false_iff, beq_iff_eq, beq_eq_false_iff_ne, ne_eq, Int.not_lt, Int.not_le, Decidable.not_not] at hc202
         refine g_seq (fun K56 hK56 => ?_)
         refine g_region ?_
         refine g_step rfl (s_fieldAddr ty96 fo96_0 ty3 rfl rfl ?_)
         refine g_step rfl (s_val (v_loadl ty3 rfl rfl rfl rfl) rfl rfl ?_)
         refine g_step rfl (s_val (v_eql rfl rfl) rfl rfl ?_)
         refine g_nil ?_
         refine g_next hK56 ?_
         first | refine g_keep [0, 3, 4, 5, 6, 7, 8, 206] [] [] (keep_cons rfl (keep_cons rfl (keep_cons rfl (keep_cons rfl (keep_cons rfl (keep_cons rfl (keep_cons rfl (keep_cons rfl keep_nil)))))))) lkeep_nil keep_nil rfl ?_ | refine g_keep [0, 3, 4, 5, 6, 7, 8, 206] [] [] rfl rfl rfl rfl ?_
         refine g_cond rfl (fun hc206 => ?_) (fun hc206 => ?_)
         ·
          try simp only [decide_eq_true_eq, decide_eq_false_iff_not, Bool.not_eq_true', Bool.not_eq_false', Bool.not_eq_eq_eq_not, Bool.not_true, Bool.not_false, Bool.and_eq_true, Bool.or_eq_true, Bool.or_eq_false_iff, beq_iff_eq, beq_eq_false_iff_ne, ne_eq, Int.not_lt, Int.not_le, Decidable.not_not] at hc206
          refine g_seq (fun K57 hK57 => ?_)
          refine g_region ?_
          refine g_step rfl (s_val (v_move rfl) rfl rfl ?_)
          refine g_step rfl (s_val (v_add rfl rfl (by omega)) rfl rfl ?_)
          refine g_step rfl (s_val (v_assign rfl) rfl rfl ?_)
          refine g_nil ?_
          refine g_next hK57 ?_
          refine g_region ?_
          refine g_step rfl (s_val (v_move rfl) rfl rfl ?_)
          refine g_step rfl (s_call rfl rfl rfl (pushing_ok (life + 1) _) (fun _ h => h.elim) ?_)
          rintro n9 _ effs9 hn9 hdom9 ⟨po2, ro2, hp9, hr9, hpr9, rfl, rfl⟩ hok9
          have hE9 := empty_eff (x := bmRow []) (y := .box (.agg [.int .i64 (life + 1), .map ro2])) hp9 hr9
          have hSep1 : Sep w0.heap.size _ [((AHeap.set noH ro2 (bmRow [])).set po2 (.box (.agg [.int .i64 (life + 1), .map ro2]))), hn, h6, h7] := (show Sep w0.heap.size _ ([] ++ _ :: _) from hSep).fresh hE9 hn9 hdom9
          have hO1 : OutIs ((AHeap.set noH ro2 (bmRow [])).set po2 (.box (.agg [.int .i64 (life + 1), .map ro2]))) po2 ro2 (life + 1) (fun _ => s0) := ⟨[], _, PA.empty (h0 := noH) hpr9⟩
          have hs_H1 := hE9.frame hdom9 hs_H (fun b hb => absurd rfl hb)
          generalize hG1 : setAll G _ = G1 at hSep1 hs_H1 ⊢
          refine g_step rfl (s_val (v_assign rfl) rfl rfl ?_)
          refine g_nil ?_
          refine g_block_normal ?_
          refine g_next hK13 ?_
          refine g_region ?_
          refine g_step rfl (s_val (v_move rfl) rfl rfl ?_)
          refine g_step rfl (s_val (v_add rfl rfl (by omega)) rfl rfl ?_)
          refine g_step rfl (s_val (v_assign rfl) rfl rfl ?_)
          refine g_nil ?_
          first | refine g_keep [0, 3, 4, 5, 6, 7, 8] [] [] (keep_cons rfl (keep_cons rfl (keep_cons rfl (keep_cons rfl (keep_cons rfl (keep_cons rfl (keep_cons rfl keep_nil))))))) lkeep_nil keep_nil rfl ?_ | refine g_keep [0, 3, 4, 5, 6, 7, 8] [] [] rfl rfl rfl rfl ?_
          exact g_round _ (by omega) ⟨k + 1, (life + 1), po2, ro2, pn, rn, (fun _ => s0), o, a6, a7, out, back, _, hn, h6, h7, by omega, rfl, rfl, rfl, rfl, ⟨hO1, hI, hV6, hV7, hSep1, hs_H1, hInv.newOut, by omega⟩⟩
         ·
          try simp only [decide_eq_true_eq, decide_eq_false_iff_not, Bool.not_eq_true', Bool.not_eq_false', Bool.not_eq_eq_eq_not, Bool.not_true, Bool.not_false, Bool.and_eq_true, Bool.or_eq_true, Bool.or_eq_false_iff, beq_iff_eq, beq_eq_false_iff_ne, ne_eq, Int.not_lt, Int.not_le, Decidable.not_not] at hc206
          refine g_skip ?_
          refine g_block_normal ?_
          refine g_next hK13 ?_
          refine g_region ?_
          refine g_step rfl (s_val (v_move rfl) rfl rfl ?_)
          refine g_step rfl (s_val (v_add rfl rfl (by omega)) rfl rfl ?_)
          refine g_step rfl (s_val (v_assign rfl) rfl rfl ?_)
          refine g_nil ?_
          first | refine g_keep [0, 3, 4, 5, 6, 7, 8] [] [] (keep_cons rfl (keep_cons rfl (keep_cons rfl (keep_cons rfl (keep_cons rfl (keep_cons rfl (keep_cons rfl keep_nil))))))) lkeep_nil keep_nil rfl ?_ | refine g_keep [0, 3, 4, 5, 6, 7, 8] [] [] rfl rfl rfl rfl ?_
          exact g_round _ (by omega) ⟨k + 1, life, po, ro, pn, rn, f, o, a6, a7, out, back, ho, hn, h6, h7, by omega, rfl, rfl, rfl, rfl, ⟨hO, hI, hV6, hV7, hSep, hs_H, hInv.mono (by omega), by omega⟩⟩
     ·
      try simp only [decide_eq_true_eq, decide_eq_false_iff_not, Bool.not_eq_true', Bool.not_eq_false', Bool.not_eq_eq_eq_not, Bool.not_true, Bool.not_false, Bool.and_eq_true, Bool.or_eq_true, Bool.or_eq_false_iff, beq_iff_eq, beq_eq_false_iff_ne, ne_eq, Int.not_lt, Int.not_le, Decidable.not_not] at hg79
      refine g_step_no (j := 3) (t := 79) rfl rfl rfl rfl rfl rfl rfl ?_
      refine g_step_no (j := 3) (t := 79) rfl rfl rfl rfl rfl rfl rfl ?_
      refine g_step_no (j := 3) (t := 79) rfl rfl rfl rfl rfl rfl rfl ?_
      refine g_step rfl (s_val (v_pick_f rfl rfl) rfl rfl ?_)
      refine g_step rfl (s_val (v_move rfl) rfl rfl ?_)
      refine g_step_no (j := 8) (t := 84) rfl rfl rfl rfl rfl rfl rfl ?_
      refine g_step_no (j := 8) (t := 84) rfl rfl rfl rfl rfl rfl rfl ?_
      refine g_step_no (j := 8) (t := 84) rfl rfl rfl rfl rfl rfl rfl ?_
      refine g_step_no (j := 8) (t := 84) rfl rfl rfl rfl rfl rfl rfl ?_
      refine g_step_no (j := 8) (t := 84) rfl rfl rfl rfl rfl rfl rfl ?_
      refine g_step rfl (s_val (v_pick_f rfl rfl) rfl rfl ?_)
      refine g_nil ?_
      refine g_next hK24 ?_
      first | refine g_keep [0, 3, 4, 5, 6, 7, 8, 90] [9] [9] (keep_cons rfl (keep_cons rfl (keep_cons rfl (keep_cons rfl (keep_cons rfl (keep_cons rfl (keep_cons rfl (keep_cons rfl keep_nil)))))))) (lkeep_cons rfl lkeep_nil) (keep_cons rfl keep_nil) rfl ?_ | refine g_keep [0, 3, 4, 5, 6, 7, 8, 90] [9] [9] rfl rfl rfl rfl ?_
      refine g_cond rfl (fun h => by cases h) (fun _ => ?_)
      refine g_seq (fun K58 hK58 => ?_)
      refine g_region ?_
      refine g_step rfl (s_fieldAddr ty96 fo96_0 ty3 rfl rfl ?_)
      refine g_step rfl (s_val (v_loadl ty3 rfl rfl rfl rfl) rfl rfl ?_)
      refine g_step rfl (s_val (v_eql rfl rfl) rfl rfl ?_)
      refine g_step rfl (s_val (v_move rfl) rfl rfl ?_)
      refine g_split 154 rfl (fun hg154 => ?_) (fun hg154 => ?_)
      ·
       try simp only [decide_eq_true_eq, decide_eq_false_iff_not, Bool.not_eq_true', Bool.not_eq_false', Bool.not_eq_eq_eq_not, Bool.not_true, Bool.not_false, Bool.and_eq_true, Bool.or_eq_true, Bool.or_eq_false_iff, beq_iff_eq, beq_eq_false_iff_ne, ne_eq, Int.not_lt, Int.not_le, Decidable.not_not] at hg154
       refine g_step_yes (j := 3) (t := 154) rfl rfl rfl rfl (s_fieldAddr ty96 fo96_1 ty3 rfl rfl ?_)
       refine g_step_yes (j := 3) (t := 154) rfl rfl rfl rfl (s_val (v_loadl ty3 rfl rfl rfl rfl) rfl rfl ?_)
       refine g_step_yes (j := 3) (t := 154) rfl rfl rfl rfl (s_val (v_geq rfl rfl) rfl rfl ?_)
       refine g_step rfl (s_val (v_pick_t rfl rfl) rfl rfl ?_)
       refine g_step rfl (s_val (v_move rfl) rfl rfl ?_)
       refine g_split 159 rfl (fun hg159 => ?_) (fun hg159 => ?_)
       ·
        try simp only [decide_eq_true_eq, decide_eq_false_iff_not, Bool.not_eq_true', Bool.not_eq_false', Bool.not_eq_eq_eq_not, Bool.not_true, Bool.not_false, Bool.and_eq_true, Bool.or_eq_true, Bool.or_eq_false_iff, beq_iff_eq, beq_eq_false_iff_ne, ne_eq, Int.not_lt, Int.not_le, Decidable.not_not] at hg159
        refine g_step_yes (j := 8) (t := 159) rfl rfl rfl rfl (s_fieldAddr ty96 fo96_1 ty3 rfl rfl ?_)
        refine g_step_yes (j := 8) (t := 159) rfl rfl rfl rfl (s_val (v_loadl ty3 rfl rfl rfl rfl) rfl rfl ?_)
        refine g_step_yes (j := 8) (t := 159) rfl rfl rfl rfl (s_val (v_move rfl) rfl rfl ?_)
        refine g_step_yes (j := 8) (t := 159) rfl rfl rfl rfl (s_val (v_len ty94 rfl hv7.view (show _ = back.length by rw [List.length_map])) rfl rfl ?_)
        refine g_step_yes (j := 8) (t := 159) rfl rfl rfl rfl (s_val (v_lss rfl rfl) rfl rfl ?_)
        refine g_step rfl (s_val (v_pick_t rfl rfl) rfl rfl ?_)
        refine g_nil ?_
        refine g_next hK58 ?_
        refine g_cond rfl (fun hc165 => ?_) (fun hc165 => ?_)
        ·
         try simp only [decide_eq_true_eq, decide_eq_false_iff_not, Bool.not_eq_true', Bool.not_eq_false', Bool.not_eq_eq_eq_not, Bool.not_true, Bool.not_false, Bool.and_eq_true, Bool.or_eq_true, Bool.or_eq_false_iff, beq_iff_eq, beq_eq_false_iff_ne, ne_eq, Int.not_lt, Int.not_le, Decidable.not_not] at hc165
         obtain ⟨j, hj⟩ := Int.eq_ofNat_of_zero_le (show 0 ≤ x.n by omega)
         obtain ⟨q, hq⟩ := get_some (l := back) (k := j) (by omega)
         refine g_seq (fun K59 hK59 => ?_)
         refine g_region ?_
         refine g_step rfl (s_val (v_move rfl) rfl rfl ?_)
         refine g_step rfl (s_fieldAddr ty96 fo96_1 ty3 rfl rfl ?_)
         refine g_step rfl (s_val (v_loadl ty3 rfl rfl rfl rfl) rfl rfl ?_)
         refine g_step rfl (s_val (v_indexAddr ty94 ty101 rfl rfl hv7.view hj (map_get hq) rfl) rfl rfl ?_)
         refine g_step rfl (s_val (by first | exact v_fieldAddr ty101 fo101_2 ty4 rfl | exact v_fieldAddr_box ty101 fo101_2 ty4 rfl) rfl rfl ?_)
         refine g_step rfl (s_val (by first | exact v_load ty4 rfl rfl hv7.view (map_get hq) rfl | exact v_load_box ty4 rfl rfl (by assumption) rfl) rfl rfl ?_)
         refine g_nil ?_
         refine g_next hK59 ?_
         first | refine g_keep [0, 3, 4, 5, 6, 7, 8, 171] [9] [9] (keep_cons rfl (keep_cons rfl (keep_cons rfl (keep_cons rfl (keep_cons rfl (keep_cons rfl (keep_cons rfl (keep_cons rfl keep_nil)))))))) (lkeep_cons rfl lkeep_nil) (keep_cons rfl keep_nil) rfl ?_ | refine g_keep [0, 3, 4, 5, 6, 7, 8, 171] [9] [9] rfl rfl rfl rfl ?_
         refine g_cond rfl (fun hc171 => ?_) (fun hc171 => ?_)
         ·
          try simp only [decide_eq_true_eq, decide_eq_false_iff_not, Bool.not_eq_true', Bool.not_eq_false', Bool.not_eq_eq_eq_not, Bool.not_true, Bool.not_false, Bool.and_eq_true, Bool.or_eq_true, Bool.or_eq_false_iff, beq_iff_eq, beq_eq_false_iff_ne, ne_eq, Int.not_lt, Int.not_le, Decidable.not_not] at hc171
          refine g_draw (n := 14) (fun j => !([13] : List Nat).contains j) rfl rfl ?_
          refine m_take 0 false rfl rfl (by kernel_rfl) (by kernel_rfl) (by kernel_rfl) (fun _ _ _ _ h => h) (v_move rfl) rfl rfl ?_
          refine m_take 1 false rfl rfl (by kernel_rfl) (by kernel_rfl) (by kernel_rfl) (fun _ _ _ _ h => h) (v_move rfl) rfl rfl ?_
          refine m_takel 2 rfl rfl (by kernel_rfl) (by kernel_rfl) (by kernel_rfl) (fun _ _ _ _ h => h) (vl_fieldAddr ty96 fo96_1 ty3 rfl) rfl rfl ?_
          refine m_take 3 true rfl rfl (by kernel_rfl) (by kernel_rfl) (by kernel_rfl) (fun _ _ _ _ h => h) (v_loadl ty3 rfl rfl rfl rfl) rfl rfl ?_
          refine m_take 4 false rfl rfl (by kernel_rfl) (by kernel_rfl) (by kernel_rfl) (fun _ _ _ _ h => h) (v_indexAddr ty94 ty101 rfl rfl hv7.view hj (map_get hq) rfl) rfl rfl ?_
          refine m_take 5 false rfl rfl (by kernel_rfl) (by kernel_rfl) (by kernel_rfl) (fun _ _ _ _ h => h) (by first | exact v_fieldAddr ty101 fo101_0 ty3 rfl | exact v_fieldAddr_box ty101 fo101_0 ty3 rfl) rfl rfl ?_
          refine m_take 6 true rfl rfl (by kernel_rfl) (by kernel_rfl) (by kernel_rfl) (fun _ _ _ _ h => h) (by first | exact v_load ty3 rfl rfl hv7.view (map_get hq) rfl | exact v_load_box ty3 rfl rfl (by assumption) rfl) rfl rfl ?_
          refine m_take 7 false rfl rfl (by kernel_rfl) (by kernel_rfl) (by kernel_rfl) (fun _ _ _ _ h => h) (v_move rfl) rfl rfl ?_
          refine m_takel 8 rfl rfl (by kernel_rfl) (by kernel_rfl) (by kernel_rfl) (fun _ _ _ _ h => h) (vl_fieldAddr ty96 fo96_1 ty3 rfl) rfl rfl ?_
          refine m_take 9 true rfl rfl (by kernel_rfl) (by kernel_rfl) (by kernel_rfl) (fun _ _ _ _ h => h) (v_loadl ty3 rfl rfl rfl rfl) rfl rfl ?_
          refine m_take 10 false rfl rfl (by kernel_rfl) (by kernel_rfl) (by kernel_rfl) (fun _ _ _ _ h => h) (v_indexAddr ty94 ty101 rfl rfl hv7.view hj (map_get hq) rfl) rfl rfl ?_
          refine m_take 11 false rfl rfl (by kernel_rfl) (by kernel_rfl) (by kernel_rfl) (fun _ _ _ _ h => h) (by first | exact v_fieldAddr ty101 fo101_1 ty3 rfl | exact v_fieldAddr_box ty101 fo101_1 ty3 rfl) rfl rfl ?_
          refine m_take 12 true rfl rfl (by kernel_rfl) (by kernel_rfl) (by kernel_rfl) (fun _ _ _ _ h => h) (by first | exact v_load ty3 rfl rfl hv7.view (map_get hq) rfl | exact v_load_box ty3 rfl rfl (by assumption) rfl) rfl rfl ?_
          refine m_one 13 (by kernel_rfl) rfl rfl ?_
          refine sm_any rfl (s_call rfl rfl rfl (oAcked_ok ho po ro life f 0 q.life q.epoch _ hO hso (hInv.okS (by omega))) (fun b hb => .inr (hao b hb)) ?_)
          rintro n6 v6 effs6 hn6 hdom6 ⟨hv6, h1, hE6, hX1⟩ hok6
          skip
          have hSep1 : Sep w0.heap.size _ [h1, hn, h6, h7] := (show Sep w0.heap.size _ ([] ++ _ :: _) from hSep).turn hE6 hn6 hdom6
          have hs_H1 := hE6.frame hdom6 hs_H (fun b hb => hw0 b (hao b hb))
          generalize hG1 : setAll G effs6 = G1 at hSep1 hs_H1 ⊢
          refine m_done (by kernel_rfl) ?_
          refine g_block_normal ?_
          refine g_next hK13 ?_
          refine g_region ?_
          refine g_step rfl (s_val (v_move rfl) rfl rfl ?_)
          refine g_step rfl (s_val (v_add rfl rfl (by omega)) rfl rfl ?_)
          refine g_step rfl (s_val (v_assign rfl) rfl rfl ?_)
          refine g_nil ?_
          first | refine g_keep [0, 3, 4, 5, 6, 7, 8] [] [] (keep_cons rfl (keep_cons rfl (keep_cons rfl (keep_cons rfl (keep_cons rfl (keep_cons rfl (keep_cons rfl keep_nil))))))) lkeep_nil keep_nil rfl ?_ | refine g_keep [0, 3, 4, 5, 6, 7, 8] [] [] rfl rfl rfl rfl ?_
          exact g_round _ (by omega) ⟨k + 1, life, po, ro, pn, rn, upd f 0 (if q.life = life then ackF (f 0) q.epoch else f 0), o, a6, a7, out, back, h1, hn, h6, h7, by omega, rfl, rfl, rfl, rfl, ⟨hX1, hI, hV6, hV7, hSep1, hs_H1, by rw [upd_at]; split; exact (hInv.ack _).mono (by omega); exact hInv.mono (by omega), by omega⟩⟩
         ·
          try simp only [decide_eq_true_eq, decide_eq_false_iff_not, Bool.not_eq_true', Bool.not_eq_false', Bool.not_eq_eq_eq_not, Bool.not_true, Bool.not_false, Bool.and_eq_true, Bool.or_eq_true, Bool.or_eq_false_iff, beq_iff_eq, beq_eq_false_iff_ne, ne_eq, Int.not_lt, Int.not_le, Decidable.not_not] at hc171
          refine g_draw (n := 14) (fun j => !([13] : List Nat).contains j) rfl rfl ?_
          refine m_take 0 false rfl rfl (by kernel_rfl) (by kernel_rfl) (by kernel_rfl) (fun _ _ _ _ h => h) (v_move rfl) rfl rfl ?_
          refine m_take 1 false rfl rfl (by kernel_rfl) (by kernel_rfl) (by kernel_rfl) (fun _ _ _ _ h => h) (v_move rfl) rfl rfl ?_
          refine m_takel 2 rfl rfl (by kernel_rfl) (by kernel_rfl) (by kernel_rfl) (fun _ _ _ _ h => h) (vl_fieldAddr ty96 fo96_1 ty3 rfl) rfl rfl ?_
          refine m_take 3 true rfl rfl (by kernel_rfl) (by kernel_rfl) (by kernel_rfl) (fun _ _ _ _ h => h) (v_loadl ty3 rfl rfl rfl rfl) rfl rfl ?_
          refine m_take 4 false rfl rfl (by kernel_rfl) (by kernel_rfl) (by kernel_rfl) (fun _ _ _ _ h => h) (v_indexAddr ty94 ty101 rfl rfl hv7.view hj (map_get hq) rfl) rfl rfl ?_
          refine m_take 5 false rfl rfl (by kernel_rfl) (by kernel_rfl) (by kernel_rfl) (fun _ _ _ _ h => h) (by first | exact v_fieldAddr ty101 fo101_0 ty3 rfl | exact v_fieldAddr_box ty101 fo101_0 ty3 rfl) rfl rfl ?_
          refine m_take 6 true rfl rfl (by kernel_rfl) (by kernel_rfl) (by kernel_rfl) (fun _ _ _ _ h => h) (by first | exact v_load ty3 rfl rfl hv7.view (map_get hq) rfl | exact v_load_box ty3 rfl rfl (by assumption) rfl) rfl rfl ?_
          refine m_take 7 false rfl rfl (by kernel_rfl) (by kernel_rfl) (by kernel_rfl) (fun _ _ _ _ h => h) (v_move rfl) rfl rfl ?_
          refine m_takel 8 rfl rfl (by kernel_rfl) (by kernel_rfl) (by kernel_rfl) (fun _ _ _ _ h => h) (vl_fieldAddr ty96 fo96_1 ty3 rfl) rfl rfl ?_
          refine m_take 9 true rfl rfl (by kernel_rfl) (by kernel_rfl) (by kernel_rfl) (fun _ _ _ _ h => h) (v_loadl ty3 rfl rfl rfl rfl) rfl rfl ?_
          refine m_take 10 false rfl rfl (by kernel_rfl) (by kernel_rfl) (by kernel_rfl) (fun _ _ _ _ h => h) (v_indexAddr ty94 ty101 rfl rfl hv7.view hj (map_get hq) rfl) rfl rfl ?_
          refine m_take 11 false rfl rfl (by kernel_rfl) (by kernel_rfl) (by kernel_rfl) (fun _ _ _ _ h => h) (by first | exact v_fieldAddr ty101 fo101_1 ty3 rfl | exact v_fieldAddr_box ty101 fo101_1 ty3 rfl) rfl rfl ?_
          refine m_take 12 true rfl rfl (by kernel_rfl) (by kernel_rfl) (by kernel_rfl) (fun _ _ _ _ h => h) (by first | exact v_load ty3 rfl rfl hv7.view (map_get hq) rfl | exact v_load_box ty3 rfl rfl (by assumption) rfl) rfl rfl ?_
          refine m_one 13 (by kernel_rfl) rfl rfl ?_
          refine sm_any rfl (s_call rfl rfl rfl (oLacked_ok ho po ro life f 0 q.life q.epoch _ hO hso (hInv.okS (by omega))) (fun b hb => .inr (hao b hb)) ?_)
          rintro n7 v7 effs7 hn7 hdom7 ⟨hv7, h1, hE7, hX1⟩ hok7
          skip
          have hSep1 : Sep w0.heap.size _ [h1, hn, h6, h7] := (show Sep w0.heap.size _ ([] ++ _ :: _) from hSep).turn hE7 hn7 hdom7
          have hs_H1 := hE7.frame hdom7 hs_H (fun b hb => hw0 b (hao b hb))
          generalize hG1 : setAll G effs7 = G1 at hSep1 hs_H1 ⊢
          refine m_done (by kernel_rfl) ?_
          refine g_block_normal ?_
          refine g_next hK13 ?_
          refine g_region ?_
          refine g_step rfl (s_val (v_move rfl) rfl rfl ?_)
          refine g_step rfl (s_val (v_add rfl rfl (by omega)) rfl rfl ?_)
          refine g_step rfl (s_val (v_assign rfl) rfl rfl ?_)
          refine g_nil ?_
          first | refine g_keep [0, 3, 4, 5, 6, 7, 8] [] [] (keep_cons rfl (keep_cons rfl (keep_cons rfl (keep_cons rfl (keep_cons rfl (keep_cons rfl (keep_cons rfl keep_nil))))))) lkeep_nil keep_nil rfl ?_ | refine g_keep [0, 3, 4, 5, 6, 7, 8] [] [] rfl rfl rfl rfl ?_
          exact g_round _ (by omega) ⟨k + 1, life, po, ro, pn, rn, upd f 0 (if q.life = life then lackF (f 0) q.epoch else f 0), o, a6, a7, out, back, h1, hn, h6, h7, by omega, rfl, rfl, rfl, rfl, ⟨hX1, hI, hV6, hV7, hSep1, hs_H1, by rw [upd_at]; split; exact (hInv.lack _).mono (by omega); exact hInv.mono (by omega), by omega⟩⟩
        ·
         try simp only [decide_eq_true_eq, decide_eq_false_iff_not, Bool.not_eq_true', Bool.not_eq_false', Bool.not_eq_eq_eq_not, Bool.not_true, Bool.not_false, Bool.and_eq_true, Bool.or_eq_true, Bool.or_eq_false_iff, beq_iff_eq, beq_eq_false_iff_ne, ne_eq, Int.not_lt, Int.not_le, Decidable.not_not] at hc165
         refine g_seq (fun K60 hK60 => ?_)
         refine g_region ?_
         refine g_step rfl (s_fieldAddr ty96 fo96_0 ty3 rfl rfl ?_)
         refine g_step rfl (s_val (v_loadl ty3 rfl rfl rfl rfl) rfl rfl ?_)
         refine g_step rfl (s_val (v_eql rfl rfl) rfl rfl ?_)
         refine g_nil ?_
         refine g_next hK60 ?_
         refine g_cond rfl (fun hc202 => ?_) (fun hc202 => ?_)
         ·
          try simp only [decide_eq_true_eq, decide_eq_false_iff_not, Bool.not_eq_true', Bool.not_eq_false', Bool.not_eq_eq_eq_not, Bool.not_true, Bool.not_false, Bool.and_eq_true, Bool.or_eq_true, Bool.or_eq_false_iff, beq_iff_eq, beq_eq_false_iff_ne, ne_eq, Int.not_lt, Int.not_le, Decidable.not_not] at hc202
          refine g_region ?_
          refine g_step rfl (s_call rfl rfl rfl (pushed_ok _) (fun _ h => h.elim) ?_)
          rintro n8 _ effs8 hn8 hdom8 ⟨pn2, rn2, hp8, hr8, hpr8, rfl, rfl⟩ hok8
          have hE8 := empty_eff (x := bmRow []) (y := .box (.agg [.map rn2])) hp8 hr8
          have hSep2 : Sep w0.heap.size _ [ho, ((AHeap.set noH rn2 (bmRow [])).set pn2 (.box (.agg [.map rn2]))), h6, h7] := (show Sep w0.heap.size _ ([ho] ++ _ :: _) from hSep).fresh hE8 hn8 hdom8
          have hI2 : InIs ((AHeap.set noH rn2 (bmRow [])).set pn2 (.box (.agg [.map rn2]))) pn2 rn2 (fun _ => none) := ⟨[], _, PA.empty (h0 := noH) hpr8, fun _ _ h => by cases h⟩
          have hs_H2 := hE8.frame hdom8 hs_H (fun b hb => absurd rfl hb)
          generalize hG2 : setAll G _ = G2 at hSep2 hs_H2 ⊢
          refine g_step rfl (s_val (v_assign rfl) rfl rfl ?_)
          refine g_nil ?_
          refine g_block_normal ?_
          refine g_next hK13 ?_
          refine g_region ?_
          refine g_step rfl (s_val (v_move rfl) rfl rfl ?_)
          refine g_step rfl (s_val (v_add rfl rfl (by omega)) rfl rfl ?_)
          refine g_step rfl (s_val (v_assign rfl) rfl rfl ?_)
          refine g_nil ?_
          first | refine g_keep [0, 3, 4, 5, 6, 7, 8] [] [] (keep_cons rfl (keep_cons rfl (keep_cons rfl (keep_cons rfl (keep_cons rfl (keep_cons rfl (keep_cons rfl keep_nil))))))) lkeep_nil keep_nil rfl ?_ | refine g_keep [0, 3, 4, 5, 6, 7, 8] [] [] rfl rfl rfl rfl ?_
          exact g_round _ (by omega) ⟨k + 1, life, po, ro, pn2, rn2, f, (fun _ => none), a6, a7, out, back, ho, _, h6, h7, by omega, rfl, rfl, rfl, rfl, ⟨hO, hI2, hV6, hV7, hSep2, hs_H2, hInv.newIn.mono (by omega), by omega⟩⟩
         ·
          try simp only [decide_eq_true_eq, decide_eq_false_iff_not, Bool.not_eq_true', Bool.not_eq_false', Bool.not_eq_eq_eq_not, Bool.not_true, Bool.not_false, Bool.and_eq_true, Bool.or_eq_true, Bool.or_eq_false_iff, beq_iff_eq, beq_eq_false_iff_ne, ne_eq, Int.not_lt, Int.not_le, Decidable.not_not] at hc202
          refine g_seq (fun K61 hK61 => ?_)
          refine g_region ?_
          refine g_step rfl (s_fieldAddr ty96 fo96_0 ty3 rfl rfl ?_)
          refine g_step rfl (s_val (v_loadl ty3 rfl rfl rfl rfl) rfl rfl ?_)
          refine g_step rfl (s_val (v_eql rfl rfl) rfl rfl ?_)
          refine g_nil ?_
          refine g_next hK61 ?_
          refine g_cond rfl (fun hc206 => ?_) (fun hc206 => ?_)
          ·
           try simp only [decide_eq_true_eq, decide_eq_false_iff_not, Bool.not_eq_true', Bool.not_eq_false', Bool.not_eq_eq_eq_not, Bool.not_true, Bool.not_false, Bool.and_eq_true, Bool.or_eq_true, Bool.or_eq_false_iff, beq_iff_eq, beq_eq_false_iff_ne, ne_eq, Int.not_lt, Int.not_le, Decidable.not_not] at hc206
           refine g_seq (fun K62 hK62 => ?_)
           refine g_region ?_
           refine g_step rfl (s_val (v_move rfl) rfl rfl ?_)
           refine g_step rfl (s_val (v_add rfl rfl (by omega)) rfl rfl ?_)
           refine g_step rfl (s_val (v_assign rfl) rfl rfl ?_)
           refine g_nil ?_
           refine g_next hK62 ?_
           first | refine g_keep [0, 3, 5, 6, 7, 8] [] [] (keep_cons rfl (keep_cons rfl (keep_cons rfl (keep_cons rfl (keep_cons rfl (keep_cons rfl keep_nil)))))) lkeep_nil keep_nil rfl ?_ | refine g_keep [0, 3, 5, 6, 7, 8] [] [] rfl rfl rfl rfl ?_
           refine g_region ?_
           refine g_step rfl (s_val (v_move rfl) rfl rfl ?_)
           refine g_step rfl (s_call rfl rfl rfl (pushing_ok (life + 1) _) (fun _ h => h.elim) ?_)
           rintro n9 _ effs9 hn9 hdom9 ⟨po2, ro2, hp9, hr9, hpr9, rfl, rfl⟩ hok9
           have hE9 := empty_eff (x := bmRow []) (y := .box (.agg [.int .i64 (life + 1), .map ro2])) hp9 hr9
           have hSep1 : Sep w0.heap.size _ [((AHeap.set noH ro2 (bmRow [])).set po2 (.box (.agg [.int .i64 (life + 1), .map ro2]))), hn, h6, h7] := (show Sep w0.heap.size _ ([] ++ _ :: _) from hSep).fresh hE9 hn9 hdom9
           have hO1 : OutIs ((AHeap.set noH ro2 (bmRow [])).set po2 (.box (.agg [.int .i64 (life + 1), .map ro2]))) po2 ro2 (life + 1) (fun _ => s0) := ⟨[], _, PA.empty (h0 := noH) hpr9⟩
           have hs_H1 := hE9.frame hdom9 hs_H (fun b hb => absurd rfl hb)
           generalize hG1 : setAll G _ = G1 at hSep1 hs_H1 ⊢
           refine g_step rfl (s_val (v_assign rfl) rfl rfl ?_)
           refine g_nil ?_
           refine g_block_normal ?_
           refine g_next hK13 ?_
           refine g_region ?_
           refine g_step rfl (s_val (v_move rfl) rfl rfl ?_)
           refine g_step rfl (s_val (v_add rfl rfl (by omega)) rfl rfl ?_)
           refine g_step rfl (s_val (v_assign rfl) rfl rfl ?_)
           refine g_nil ?_
           first | refine g_keep [0, 3, 4, 5, 6, 7, 8] [] [] (keep_cons rfl (keep_cons rfl (keep_cons rfl (keep_cons rfl (keep_cons rfl (keep_cons rfl (keep_cons rfl keep_nil))))))) lkeep_nil keep_nil rfl ?_ | refine g_keep [0, 3, 4, 5, 6, 7, 8] [] [] rfl rfl rfl rfl ?_
           exact g_round _ (by omega) ⟨k + 1, (life + 1), po2, ro2, pn, rn, (fun _ => s0), o, a6, a7, out, back, _, hn, h6, h7, by omega, rfl, rfl, rfl, rfl, ⟨hO1, hI, hV6, hV7, hSep1, hs_H1, hInv.newOut, by omega⟩⟩
          ·
           try simp only [decide_eq_true_eq, decide_eq_false_iff_not, Bool.not_eq_true', Bool.not_eq_false', Bool.not_eq_eq_eq_not, Bool.not_true, Bool.not_false, Bool.and_eq_true, Bool.or_eq_true, Bool.or_eq_false_iff, beq_iff_eq, beq_eq_false_iff_ne, ne_eq, Int.not_lt, Int.not_le, Decidable.not_not] at hc206
           refine g_skip ?_
           refine g_block_normal ?_
           refine g_next hK13 ?_
           refine g_region ?_
           refine g_step rfl (s_val (v_move rfl) rfl rfl ?_)
           refine g_step rfl (s_val (v_add rfl rfl (by omega)) rfl rfl ?_)
           refine g_step rfl (s_val (v_assign rfl) rfl rfl ?_)
           refine g_nil ?_
           first | refine g_keep [0, 3, 4, 5, 6, 7, 8] [] [] (keep_cons rfl (keep_cons rfl (keep_cons rfl (keep_cons rfl (keep_cons rfl (keep_cons rfl (keep_cons rfl keep_nil))))))) lkeep_nil keep_nil rfl ?_ | refine g_keep [0, 3, 4, 5, 6, 7, 8] [] [] rfl rfl rfl rfl ?_
           exact g_round _ (by omega) ⟨k + 1, life, po, ro, pn, rn, f, o, a6, a7, out, back, ho, hn, h6, h7, by omega, rfl, rfl, rfl, rfl, ⟨hO, hI, hV6, hV7, hSep, hs_H, hInv.mono (by omega), by omega⟩⟩
       ·
        try simp only [decide_eq_true_eq, decide_eq_false_iff_not, Bool.not_eq_true', Bool.not_eq_false', Bool.not_eq_eq_eq_not, Bool.not_true, Bool.not_false, Bool.and_eq_true, Bool.or_eq_true, Bool.or_eq_false_iff, beq_iff_eq, beq_eq_false_iff_ne, ne_eq, Int.not_lt, Int.not_le, Decidable.not_not] at hg159
        refine g_step_no (j := 8) (t := 159) rfl rfl rfl rfl rfl rfl rfl ?_
        refine g_step_no (j := 8) (t := 159) rfl rfl rfl rfl rfl rfl rfl ?_
        refine g_step_no (j := 8) (t := 159) rfl rfl rfl rfl rfl rfl rfl ?_
        refine g_step_no (j := 8) (t := 159) rfl rfl rfl rfl rfl rfl rfl ?_
        refine g_step_no (j := 8) (t := 159) rfl rfl rfl rfl rfl rfl rfl ?_
        refine g_step rfl (s_val (v_pick_f rfl rfl) rfl rfl ?_)
        refine g_nil ?_
        refine g_next hK58 ?_
        refine g_cond rfl (fun h => by cases h) (fun _ => ?_)
        refine g_seq (fun K63 hK63 => ?_)
        refine g_region ?_
        refine g_step rfl (s_fieldAddr ty96 fo96_0 ty3 rfl rfl ?_)
        refine g_step rfl (s_val (v_loadl ty3 rfl rfl rfl rfl) rfl rfl ?_)
        refine g_step rfl (s_val (v_eql rfl rfl) rfl rfl ?_)
        refine g_nil ?_
        refine g_next hK63 ?_
        refine g_cond rfl (fun hc202 => ?_) (fun hc202 => ?_)
        ·
         try simp only [decide_eq_true_eq, decide_eq_false_iff_not, Bool.not_eq_true', Bool.not_eq_false', Bool.not_eq_eq_eq_not, Bool.not_true, Bool.not_false, Bool.and_eq_true, Bool.or_eq_true, Bool.or_eq_false_iff, beq_iff_eq, beq_eq_false_iff_ne, ne_eq, Int.not_lt, Int.not_le, Decidable.not_not] at hc202
         refine g_region ?_
         refine g_step rfl (s_call rfl rfl rfl (pushed_ok _) (fun _ h => h.elim) ?_)
         rintro n8 _ effs8 hn8 hdom8 ⟨pn2, rn2, hp8, hr8, hpr8, rfl, rfl⟩ hok8
         have hE8 := empty_eff (x := bmRow []) (y := .box (.agg [.map rn2])) hp8 hr8
         have hSep2 : Sep w0.heap.size _ [ho, ((AHeap.set noH rn2 (bmRow [])).set pn2 (.box (.agg [.map rn2]))), h6, h7] := (show Sep w0.heap.size _ ([ho] ++ _ :: _) from hSep).fresh hE8 hn8 hdom8
         have hI2 : InIs ((AHeap.set noH rn2 (bmRow [])).set pn2 (.box (.agg [.map rn2]))) pn2 rn2 (fun _ => none) := ⟨[], _, PA.empty (h0 := noH) hpr8, fun _ _ h => by cases h⟩
         have hs_H2 := hE8.frame hdom8 hs_H (fun b hb => absurd rfl hb)
         generalize hG2 : setAll G _ = G2 at hSep2 hs_H2 ⊢
         refine g_step rfl (s_val (v_assign rfl) rfl rfl ?_)
         refine g_nil ?_
         refine g_block_normal ?_
         refine g_next hK13 ?_
         refine g_region ?_
         refine g_step rfl (s_val (v_move rfl) rfl rfl ?_)
         refine g_step rfl (s_val (v_add rfl rfl (by omega)) rfl rfl ?_)
         refine g_step rfl (s_val (v_assign rfl) rfl rfl ?_)
         refine g_nil ?_
         first | refine g_keep [0, 3, 4, 5, 6, 7, 8] [] [] (keep_cons rfl (keep_cons rfl (keep_cons rfl (keep_cons rfl (keep_cons rfl (keep_cons rfl (keep_cons rfl keep_nil))))))) lkeep_nil keep_nil rfl ?_ | refine g_keep [0, 3, 4, 5, 6, 7, 8] [] [] rfl rfl rfl rfl ?_
         exact g_round _ (by omega) ⟨k + 1, life, po, ro, pn2, rn2, f, (fun _ => none), a6, a7, out, back, ho, _, h6, h7, by omega, rfl, rfl, rfl, rfl, ⟨hO, hI2, hV6, hV7, hSep2, hs_H2, hInv.newIn.mono (by omega), by omega⟩⟩
        ·
         try simp only [decide_eq_true_eq, decide_eq_false_iff_not, Bool.not_eq_true', Bool.not_eq_false', Bool.not_eq_eq_eq_not, Bool.not_true, Bool.not_false, Bool.and_eq_true, Bool.or_eq_true, Bool.or_eq_false_iff, beq_iff_eq, beq_eq_false_iff_ne, ne_eq, Int.not_lt, Int.not_le, Decidable.not_not] at hc202
         refine g_seq (fun K64 hK64 => ?_)
         refine g_region ?_
         refine g_step rfl (s_fieldAddr ty96 fo96_0 ty3 rfl rfl ?_)
         refine g_step rfl (s_val (v_loadl ty3 rfl rfl rfl rfl) rfl rfl ?_)
         refine g_step rfl (s_val (v_eql rfl rfl) rfl rfl ?_)
         refine g_nil ?_
         refine g_next hK64 ?_
         first | refine g_keep [0, 3, 4, 5, 6, 7, 8, 206] [] [] (keep_cons rfl (keep_cons rfl (keep_cons rfl (keep_cons rfl (keep_cons rfl (keep_cons rfl (keep_cons rfl (keep_cons rfl keep_nil)))))))) lkeep_nil keep_nil rfl ?_ | refine g_keep [0, 3, 4, 5, 6, 7, 8, 206] [] [] rfl rfl rfl rfl ?_
         refine g_cond rfl (fun hc206 => ?_) (fun hc206 => ?_)
         ·
          try simp only [decide_eq_true_eq, decide_eq_false_iff_not, Bool.not_eq_true', Bool.not_eq_false', Bool.not_eq_eq_eq_not, Bool.not_true, Bool.not_false, Bool.and_eq_true, Bool.or_eq_true, Bool.or_eq_false_iff, beq_iff_eq, beq_eq_false_iff_ne, ne_eq, Int.not_lt, Int.not_le, Decidable.not_not] at hc206
          refine g_seq (fun K65 hK65 => ?_)
          refine g_region ?_
          refine g_step rfl (s_val (v_move rfl) rfl rfl ?_)
          refine g_step rfl (s_val (v_add rfl rfl (by omega)) rfl rfl ?_)
          refine g_step rfl (s_val (v_assign rfl) rfl rfl ?_)
          refine g_nil ?_
          refine g_next hK65 ?_
          refine g_region ?_
          refine g_step rfl (s_val (v_move rfl) rfl rfl ?_)
          refine g_step rfl (s_call rfl rfl rfl (pushing_ok (life + 1) _) (fun _ h => h.elim) ?_)
          rintro n9 _ effs9 hn9 hdom9 ⟨po2, ro2, hp9, hr9, hpr9, rfl, rfl⟩ hok9
          have hE9 := empty_eff (x := bmRow []) (y := .box (.agg [.int .i64 (life + 1), .map ro2])) hp9 hr9
          have hSep1 : Sep w0.heap.size _ [((AHeap.set noH ro2 (bmRow [])).set po2 (.box (.agg [.int .i64 (life + 1), .map ro2]))), hn, h6, h7] := (show Sep w0.heap.size _ ([] ++ _ :: _) from hSep).fresh hE9 hn9 hdom9
          have hO1 : OutIs ((AHeap.set noH ro2 (bmRow [])).set po2 (.box (.agg [.int .i64 (life + 1), .map ro2]))) po2 ro2 (life + 1) (fun _ => s0) := ⟨[], _, PA.empty (h0 := noH) hpr9⟩
          have hs_H1 := hE9.frame hdom9 hs_H (fun b hb => absurd rfl hb)
          generalize hG1 : setAll G _ = G1 at hSep1 hs_H1 ⊢
          refine g_step rfl (s_val (v_assign rfl) rfl rfl ?_)
          refine g_nil ?_
          refine g_block_normal ?_
          refine g_next hK13 ?_
          refine g_region ?_
          refine g_step rfl (s_val (v_move rfl) rfl rfl ?_)
          refine g_step rfl (s_val (v_add rfl rfl (by omega)) rfl rfl ?_)
          refine g_step rfl (s_val (v_assign rfl) rfl rfl ?_)
          refine g_nil ?_
          first | refine g_keep [0, 3, 4, 5, 6, 7, 8] [] [] (keep_cons rfl (keep_cons rfl (keep_cons rfl (keep_cons rfl (keep_cons rfl (keep_cons rfl (keep_cons rfl keep_nil))))))) lkeep_nil keep_nil rfl ?_ | refine g_keep [0, 3, 4, 5, 6, 7, 8] [] [] rfl rfl rfl rfl ?_
          exact g_round _ (by omega) ⟨k + 1, (life + 1), po2, ro2, pn, rn, (fun _ => s0), o, a6, a7, out, back, _, hn, h6, h7, by omega, rfl, rfl, rfl, rfl, ⟨hO1, hI, hV6, hV7, hSep1, hs_H1, hInv.newOut, by omega⟩⟩
         ·
          try simp only [decide_eq_true_eq, decide_eq_false_iff_not, Bool.not_eq_true', Bool.not_eq_false', Bool.not_eq_eq_eq_not, Bool.not_true, Bool.not_false, Bool.and_eq_true, Bool.or_eq_true, Bool.or_eq_false_iff, beq_iff_eq, beq_eq_false_iff_ne, ne_eq, Int.not_lt, Int.not_le, Decidable.not_not] at hc206
          refine g_skip ?_
          refine g_block_normal ?_
          refine g_next hK13 ?_
          refine g_region ?_
          refine g_step rfl (s_val (v_move rfl) rfl rfl ?_)
          refine g_step rfl (s_val (v_add rfl rfl (by omega)) rfl rfl ?_)
          refine g_step rfl (s_val (v_assign rfl) rfl rfl ?_)
          refine g_nil ?_
          first | refine g_keep [0, 3, 4, 5, 6, 7, 8] [] [] (keep_cons rfl (keep_cons rfl (keep_cons rfl (keep_cons rfl (keep_cons rfl (keep_cons rfl (keep_cons rfl keep_nil))))))) lkeep_nil keep_nil rfl ?_ | refine g_keep [0, 3, 4, 5, 6, 7, 8] [] [] rfl rfl rfl rfl ?_
          exact g_round _ (by omega) ⟨k + 1, life, po, ro, pn, rn, f, o, a6, a7, out, back, ho, hn, h6, h7, by omega, rfl, rfl, rfl, rfl, ⟨hO, hI, hV6, hV7, hSep, hs_H, hInv.mono (by omega), by omega⟩⟩
      ·
       try simp only [decide_eq_true_eq, decide_eq_false_iff_not, Bool.not_eq_true', Bool.not_eq_false', Bool.not_eq_eq_eq_not, Bool.not_true, Bool.not_false, Bool.and_eq_true, Bool.or_eq_true, Bool.or_eq_false_iff, beq_iff_eq, beq_eq_false_iff_ne, ne_eq, Int.not_lt, Int.not_le, Decidable.not_not] at hg154
       refine g_step_no (j := 3) (t := 154) rfl rfl rfl rfl rfl rfl rfl ?_
       refine g_step_no (j := 3) (t := 154) rfl rfl rfl rfl rfl rfl rfl ?_
       refine g_step_no (j := 3) (t := 154) rfl rfl rfl rfl rfl rfl rfl ?_
       refine g_step rfl (s_val (v_pick_f rfl rfl) rfl rfl ?_)
       refine g_step rfl (s_val (v_move rfl) rfl rfl ?_)
       refine g_step_no (j := 8) (t := 159) rfl rfl rfl rfl rfl rfl rfl ?_
       refine g_step_no (j := 8) (t := 159) rfl rfl rfl rfl rfl rfl rfl ?_
       refine g_step_no (j := 8) (t := 159) rfl rfl rfl rfl rfl rfl rfl ?_
       refine g_step_no (j := 8) (t := 159) rfl rfl rfl rfl rfl rfl rfl ?_
       refine g_step_no (j := 8) (t := 159) rfl rfl rfl rfl rfl rfl rfl ?_
       refine g_step rfl (s_val (v_pick_f rfl rfl) rfl rfl ?_)
       refine g_nil ?_
       refine g_next hK58 ?_
       refine g_cond rfl (fun h => by cases h) (fun _ => ?_)
       refine g_seq (fun K66 hK66 => ?_)
       refine g_region ?_
       refine g_step rfl (s_fieldAddr ty96 fo96_0 ty3 rfl rfl ?_)
       refine g_step rfl (s_val (v_loadl ty3 rfl rfl rfl rfl) rfl rfl ?_)
       refine g_step rfl (s_val (v_eql rfl rfl) rfl rfl ?_)
       refine g_nil ?_
       refine g_next hK66 ?_
       refine g_cond rfl (fun hc202 => ?_) (fun hc202 => ?_)
       ·
        try simp only [decide_eq_true_eq, decide_eq_false_iff_not, Bool.not_eq_true', Bool.not_eq_false', Bool.not_eq_eq_eq_not, Bool.not_true, Bool.not_false, Bool.and_eq_true, Bool.or_eq_true, Bool.or_eq_false_iff, beq_iff_eq, beq_eq_false_iff_ne, ne_eq, Int.not_lt, Int.not_le, Decidable.not_not] at hc202
        refine g_region ?_
        refine g_step rfl (s_call rfl rfl rfl (pushed_ok _) (fun _ h => h.elim) ?_)
        rintro n8 _ effs8 hn8 hdom8 ⟨pn2, rn2, hp8, hr8, hpr8, rfl, rfl⟩ hok8
        have hE8 := empty_eff (x := bmRow []) (y := .box (.agg [.map rn2])) hp8 hr8
        have hSep2 : Sep w0.heap.size _ [ho, ((AHeap.set noH rn2 (bmRow [])).set pn2 (.box (.agg [.map rn2]))), h6, h7] := (show Sep w0.heap.size _ ([ho] ++ _ :: _) from hSep).fresh hE8 hn8 hdom8
        have hI2 : InIs ((AHeap.set noH rn2 (bmRow [])).set pn2 (.box (.agg [.map rn2]))) pn2 rn2 (fun _ => none) := ⟨[], _, PA.empty (h0 := noH) hpr8, fun _ _ h => by cases h⟩
        have hs_H2 := hE8.frame hdom8 hs_H (fun b hb => absurd rfl hb)
        generalize hG2 : setAll G _ = G2 at hSep2 hs_H2 ⊢
        refine g_step rfl (s_val (v_assign rfl) rfl rfl ?_)
        refine g_nil ?_
        refine g_block_normal ?_
        refine g_next hK13 ?_
        first | refine g_keep [0, 3, 4, 5, 6, 7, 8] [] [] (keep_cons rfl (keep_cons rfl (keep_cons rfl (keep_cons rfl (keep_cons rfl (keep_cons rfl (keep_cons rfl keep_nil))))))) lkeep_nil keep_nil rfl ?_ | refine g_keep [0, 3, 4, 5, 6, 7, 8] [] [] rfl rfl rfl rfl ?_
        refine g_region ?_
        refine g_step rfl (s_val (v_move rfl) rfl rfl ?_)
        refine g_step rfl (s_val (v_add rfl rfl (by omega)) rfl rfl ?_)
        refine g_step rfl (s_val (v_assign rfl) rfl rfl ?_)
        refine g_nil ?_
        first | refine g_keep [0, 3, 4, 5, 6, 7, 8] [] [] (keep_cons rfl (keep_cons rfl (keep_cons rfl (keep_cons rfl (keep_cons rfl (keep_cons rfl (keep_cons rfl keep_nil))))))) lkeep_nil keep_nil rfl ?_ | refine g_keep [0, 3, 4, 5, 6, 7, 8] [] [] rfl rfl rfl rfl ?_
        exact g_round _ (by omega) ⟨k + 1, life, po, ro, pn2, rn2, f, (fun _ => none), a6, a7, out, back, ho, _, h6, h7, by omega, rfl, rfl, rfl, rfl, ⟨hO, hI2, hV6, hV7, hSep2, hs_H2, hInv.newIn.mono (by omega), by omega⟩⟩
       ·
        try simp only [decide_eq_true_eq, decide_eq_false_iff_not, Bool.not_eq_true', Bool.not_eq_false', Bool.not_eq_eq_eq_not, Bool.not_true, Bool.not_false, Bool.and_eq_true, Bool.or_eq_true, Bool.or_eq_false_iff, beq_iff_eq, beq_eq_false_iff_ne, ne_eq, Int.not_lt, Int.not_le, Decidable.not_not] at hc202
        refine g_seq (fun K67 hK67 => ?_)
        refine g_region ?_
        refine g_step rfl (s_fieldAddr ty96 fo96_0 ty3 rfl rfl ?_)
        refine g_step rfl (s_val (v_loadl ty3 rfl rfl rfl rfl) rfl rfl ?_)
        refine g_step rfl (s_val (v_eql rfl rfl) rfl rfl ?_)
        refine g_nil ?_
        refine g_next hK67 ?_
        first | refine g_keep [0, 3, 4, 5, 6, 7, 8, 206] [] [] (keep_cons rfl (keep_cons rfl (keep_cons rfl (keep_cons rfl (keep_cons rfl (keep_cons rfl (keep_cons rfl (keep_cons rfl keep_nil)))))))) lkeep_nil keep_nil rfl ?_ | refine g_keep [0, 3, 4, 5, 6, 7, 8, 206] [] [] rfl rfl rfl rfl ?_
        refine g_cond rfl (fun hc206 => ?_) (fun hc206 => ?_)
        ·
         try simp only [decide_eq_true_eq, decide_eq_false_iff_not, Bool.not_eq_true', Bool.not_eq_false', Bool.not_eq_eq_eq_not, Bool.not_true, Bool.not_false, Bool.and_eq_true, Bool.or_eq_true, Bool.or_eq_false_iff, beq_iff_eq, beq_eq_false_iff_ne, ne_eq, Int.not_lt, Int.not_le, Decidable.not_not] at hc206
         refine g_seq (fun K68 hK68 => ?_)
         refine g_region ?_
         refine g_step rfl (s_val (v_move rfl) rfl rfl ?_)
         refine g_step rfl (s_val (v_add rfl rfl (by omega)) rfl rfl ?_)
         refine g_step rfl (s_val (v_assign rfl) rfl rfl ?_)
         refine g_nil ?_
         refine g_next hK68 ?_
         refine g_region ?_
         refine g_step rfl (s_val (v_move rfl) rfl rfl ?_)
         refine g_step rfl (s_call rfl rfl rfl (pushing_ok (life + 1) _) (fun _ h => h.elim) ?_)
         rintro n9 _ effs9 hn9 hdom9 ⟨po2, ro2, hp9, hr9, hpr9, rfl, rfl⟩ hok9
         have hE9 := empty_eff (x := bmRow []) (y := .box (.agg [.int .i64 (life + 1), .map ro2])) hp9 hr9
         have hSep1 : Sep w0.heap.size _ [((AHeap.set noH ro2 (bmRow [])).set po2 (.box (.agg [.int .i64 (life + 1), .map ro2]))), hn, h6, h7] := (show Sep w0.heap.size _ ([] ++ _ :: _) from hSep).fresh hE9 hn9 hdom9
         have hO1 : OutIs ((AHeap.set noH ro2 (bmRow [])).set po2 (.box (.agg [.int .i64 (life + 1), .map ro2]))) po2 ro2 (life + 1) (fun _ => s0) := ⟨[], _, PA.empty (h0 := noH) hpr9⟩
         have hs_H1 := hE9.frame hdom9 hs_H (fun b hb => absurd rfl hb)
         generalize hG1 : setAll G _ = G1 at hSep1 hs_H1 ⊢
         refine g_step rfl (s_val (v_assign rfl) rfl rfl ?_)
         refine g_nil ?_
         refine g_block_normal ?_
         refine g_next hK13 ?_
         refine g_region ?_
         refine g_step rfl (s_val (v_move rfl) rfl rfl ?_)
         refine g_step rfl (s_val (v_add rfl rfl (by omega)) rfl rfl ?_)
         refine g_step rfl (s_val (v_assign rfl) rfl rfl ?_)
         refine g_nil ?_
         first | refine g_keep [0, 3, 4, 5, 6, 7, 8] [] [] (keep_cons rfl (keep_cons rfl (keep_cons rfl (keep_cons rfl (keep_cons rfl (keep_cons rfl (keep_cons rfl keep_nil))))))) lkeep_nil keep_nil rfl ?_ | refine g_keep [0, 3, 4, 5, 6, 7, 8] [] [] rfl rfl rfl rfl ?_
         exact g_round _ (by omega) ⟨k + 1, (life + 1), po2, ro2, pn, rn, (fun _ => s0), o, a6, a7, out, back, _, hn, h6, h7, by omega, rfl, rfl, rfl, rfl, ⟨hO1, hI, hV6, hV7, hSep1, hs_H1, hInv.newOut, by omega⟩⟩
        ·
         try simp only [decide_eq_true_eq, decide_eq_false_iff_not, Bool.not_eq_true', Bool.not_eq_false', Bool.not_eq_eq_eq_not, Bool.not_true, Bool.not_false, Bool.and_eq_true, Bool.or_eq_true, Bool.or_eq_false_iff, beq_iff_eq, beq_eq_false_iff_ne, ne_eq, Int.not_lt, Int.not_le, Decidable.not_not] at hc206
         refine g_skip ?_
         refine g_block_normal ?_
         refine g_next hK13 ?_
         refine g_region ?_
         refine g_step rfl (s_val (v_move rfl) rfl rfl ?_)
         refine g_step rfl (s_val (v_add rfl rfl (by omega)) rfl rfl ?_)
         refine g_step rfl (s_val (v_assign rfl) rfl rfl ?_)
         refine g_nil ?_
         first | refine g_keep [0, 3, 4, 5, 6, 7, 8] [] [] (keep_cons rfl (keep_cons rfl (keep_cons rfl (keep_cons rfl (keep_cons rfl (keep_cons rfl (keep_cons rfl keep_nil))))))) lkeep_nil keep_nil rfl ?_ | refine g_keep [0, 3, 4, 5, 6, 7, 8] [] [] rfl rfl rfl rfl ?_
         exact g_round _ (by omega) ⟨k + 1, life, po, ro, pn, rn, f, o, a6, a7, out, back, ho, hn, h6, h7, by omega, rfl, rfl, rfl, rfl, ⟨hO, hI, hV6, hV7, hSep, hs_H, hInv.mono (by omega), by omega⟩⟩
  ·
   try simp only [decide_eq_true_eq, decide_eq_false_iff_not, Bool.not_eq_true', Bool.not_eq_false', Bool.not_eq_eq_eq_not, Bool.not_true, Bool.not_false, Bool.and_eq_true, Bool.or_eq_true, Bool.or_eq_false_iff, beq_iff_eq, beq_eq_false_iff_ne, ne_eq, Int.not_lt, Int.not_le, Decidable.not_not] at hc30
   obtain rfl : k = l.length := by omega
   refine g_exit ?_
   refine g_then_exit ?_
   refine g_then_exit ?_
   refine g_block_same ?_
   refine g_next hK9 ?_
   refine g_seq (fun K69 hK69 => ?_)
   refine g_region ?_
   refine g_step rfl (s_callp rfl rfl rfl (awake26_ok _) ?_)
   rintro _ rfl
   refine g_step rfl (s_val (v_assign rfl) rfl rfl ?_)
   refine g_nil ?_
   refine g_next hK69 ?_
   refine g_ret ?_
   refine g_end1 (.inl rfl) Try.results9 (.tmp rfl) [] (ASub.refl _) (by first | exact hs_H | exact AHeap.sub_refl _) (fun p hp => by cases hp) ⟨rfl, ?_⟩
   rfl

end Go.Proofs.Ytobigfbgaiglkaa

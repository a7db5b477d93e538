import Derived.Test.YtgipbhfblmblcaaBlindLaw
set_option maxHeartbeats 8000000
set_option linter.unusedSimpArgs false
set_option linter.unusedVariables false
set_option maxRecDepth 100000
namespace Go.Proofs.Ytgipbhfblmblcaa
open Go Go.Proofs.Ytgipbhfblmblcaa.AM
theorem blindGrows_ok (n room : Int) (l : List Mv) (hh : ∀ x ∈ l, ∀ r ∈ x.recs, Held r.bag) (hh2 : ∀ x ∈ l, x.recs.length ≤ 140737488351232) (hl : l.length ≤ 140737488351232) (G : AHeap) : PCalls Try.prog 10 [.int .i64 n, .int .i64 room, .imm (l.map encMv)] G (fun v => v = .bool true) := by
 refine LCalls.intro 185 fi10 rfl Try.ntmps10 rfl (fun _ h => h.elim) (fun H hH w0 hw0 => ?_)
 refine g_seq (fun K0 hK0 => ?_)
 refine g_region ?_
 refine g_step rfl (s_val (v_assign rfl) rfl rfl ?_)
 refine g_nil ?_
 refine g_next hK0 ?_
 refine g_seq (fun K1 hK1 => ?_)
 refine g_seq (fun K2 hK2 => ?_)
 refine g_region ?_
 refine g_step rfl (s_val (v_move rfl) rfl rfl ?_)
 refine g_step rfl (s_callp rfl rfl rfl (few34_ok l hh hh2 hl _) ?_)
 rintro _ rfl
 refine g_step rfl (s_val (v_not rfl) rfl rfl ?_)
 refine g_step rfl (s_val (v_move rfl) rfl rfl ?_)
 refine g_split 24 rfl (fun hg24 => ?_) (fun hg24 => ?_)
 ·
  try simp only [NM] at hg24
  refine g_step_no (j := 3) (t := 24) rfl rfl rfl rfl rfl rfl rfl ?_
  refine g_step_no (j := 3) (t := 24) rfl rfl rfl rfl rfl rfl rfl ?_
  refine g_step rfl (s_val (v_pick_t rfl rfl) rfl rfl ?_)
  refine g_step rfl (s_val (v_move rfl) rfl rfl ?_)
  refine g_step_no (j := 7) (t := 28) rfl rfl rfl rfl rfl rfl rfl ?_
  refine g_step_no (j := 7) (t := 28) rfl rfl rfl rfl rfl rfl rfl ?_
  refine g_step rfl (s_val (v_pick_t rfl rfl) rfl rfl ?_)
  refine g_step rfl (s_val (v_move rfl) rfl rfl ?_)
  refine g_step_no (j := 11) (t := 32) rfl rfl rfl rfl rfl rfl rfl ?_
  refine g_step_no (j := 11) (t := 32) rfl rfl rfl rfl rfl rfl rfl ?_
  refine g_step rfl (s_val (v_pick_t rfl rfl) rfl rfl ?_)
  refine g_step rfl (s_val (v_move rfl) rfl rfl ?_)
  refine g_step_no (j := 15) (t := 36) rfl rfl rfl rfl rfl rfl rfl ?_
  refine g_step_no (j := 15) (t := 36) rfl rfl rfl rfl rfl rfl rfl ?_
  refine g_step rfl (s_val (v_pick_t rfl rfl) rfl rfl ?_)
  refine g_nil ?_
  refine g_next hK2 ?_
  refine g_cond rfl (fun _ => ?_) (fun h => by cases h)
  refine g_seq (fun K3 hK3 => ?_)
  refine g_region ?_
  refine g_step rfl (s_callp rfl rfl rfl (awake34_ok _) ?_)
  rintro _ rfl
  refine g_step rfl (s_val (v_assign rfl) rfl rfl ?_)
  refine g_nil ?_
  refine g_next hK3 ?_
  refine g_ret ?_
  refine g_then_ret ?_
  refine g_end1 (.inl rfl) Try.results10 (.tmp rfl) [] (ASub.refl _) (AHeap.sub_refl _) (fun p hp => by cases hp) ⟨rfl, ?_⟩
  rfl
 ·
  try simp only [NM] at hg24
  refine g_step_yes (j := 3) (t := 24) rfl rfl rfl rfl (s_val (v_move rfl) rfl rfl ?_)
  refine g_step_yes (j := 3) (t := 24) rfl rfl rfl rfl (s_val (v_lss rfl rfl) rfl rfl ?_)
  refine g_step rfl (s_val (v_pick_f rfl rfl) rfl rfl ?_)
  refine g_step rfl (s_val (v_move rfl) rfl rfl ?_)
  refine g_split 28 rfl (fun hg28 => ?_) (fun hg28 => ?_)
  ·
   try simp only [NM] at hg28
   refine g_step_no (j := 7) (t := 28) rfl rfl rfl rfl rfl rfl rfl ?_
   refine g_step_no (j := 7) (t := 28) rfl rfl rfl rfl rfl rfl rfl ?_
   refine g_step rfl (s_val (v_pick_t rfl rfl) rfl rfl ?_)
   refine g_step rfl (s_val (v_move rfl) rfl rfl ?_)
   refine g_step_no (j := 11) (t := 32) rfl rfl rfl rfl rfl rfl rfl ?_
   refine g_step_no (j := 11) (t := 32) rfl rfl rfl rfl rfl rfl rfl ?_
   refine g_step rfl (s_val (v_pick_t rfl rfl) rfl rfl ?_)
   refine g_step rfl (s_val (v_move rfl) rfl rfl ?_)
   refine g_step_no (j := 15) (t := 36) rfl rfl rfl rfl rfl rfl rfl ?_
   refine g_step_no (j := 15) (t := 36) rfl rfl rfl rfl rfl rfl rfl ?_
   refine g_step rfl (s_val (v_pick_t rfl rfl) rfl rfl ?_)
   refine g_nil ?_
   refine g_next hK2 ?_
   refine g_cond rfl (fun _ => ?_) (fun h => by cases h)
   refine g_seq (fun K4 hK4 => ?_)
   refine g_region ?_
   refine g_step rfl (s_callp rfl rfl rfl (awake34_ok _) ?_)
   rintro _ rfl
   refine g_step rfl (s_val (v_assign rfl) rfl rfl ?_)
   refine g_nil ?_
   refine g_next hK4 ?_
   refine g_ret ?_
   refine g_then_ret ?_
   refine g_end1 (.inl rfl) Try.results10 (.tmp rfl) [] (ASub.refl _) (AHeap.sub_refl _) (fun p hp => by cases hp) ⟨rfl, ?_⟩
   rfl
  ·
   try simp only [NM] at hg28
   refine g_step_yes (j := 7) (t := 28) rfl rfl rfl rfl (s_val (v_move rfl) rfl rfl ?_)
   refine g_step_yes (j := 7) (t := 28) rfl rfl rfl rfl (s_val (v_gtr rfl rfl) rfl rfl ?_)
   refine g_step rfl (s_val (v_pick_f rfl rfl) rfl rfl ?_)
   refine g_step rfl (s_val (v_move rfl) rfl rfl ?_)
   refine g_split 32 rfl (fun hg32 => ?_) (fun hg32 => ?_)
   ·
    try simp only [NM] at hg32
    refine g_step_no (j := 11) (t := 32) rfl rfl rfl rfl rfl rfl rfl ?_
    refine g_step_no (j := 11) (t := 32) rfl rfl rfl rfl rfl rfl rfl ?_
    refine g_step rfl (s_val (v_pick_t rfl rfl) rfl rfl ?_)
    refine g_step rfl (s_val (v_move rfl) rfl rfl ?_)
    refine g_step_no (j := 15) (t := 36) rfl rfl rfl rfl rfl rfl rfl ?_
    refine g_step_no (j := 15) (t := 36) rfl rfl rfl rfl rfl rfl rfl ?_
    refine g_step rfl (s_val (v_pick_t rfl rfl) rfl rfl ?_)
    refine g_nil ?_
    refine g_next hK2 ?_
    refine g_cond rfl (fun _ => ?_) (fun h => by cases h)
    refine g_seq (fun K5 hK5 => ?_)
    refine g_region ?_
    refine g_step rfl (s_callp rfl rfl rfl (awake34_ok _) ?_)
    rintro _ rfl
    refine g_step rfl (s_val (v_assign rfl) rfl rfl ?_)
    refine g_nil ?_
    refine g_next hK5 ?_
    refine g_ret ?_
    refine g_then_ret ?_
    refine g_end1 (.inl rfl) Try.results10 (.tmp rfl) [] (ASub.refl _) (AHeap.sub_refl _) (fun p hp => by cases hp) ⟨rfl, ?_⟩
    rfl
   ·
    try simp only [NM] at hg32
    refine g_step_yes (j := 11) (t := 32) rfl rfl rfl rfl (s_val (v_move rfl) rfl rfl ?_)
    refine g_step_yes (j := 11) (t := 32) rfl rfl rfl rfl (s_val (v_lss rfl rfl) rfl rfl ?_)
    refine g_step rfl (s_val (v_pick_f rfl rfl) rfl rfl ?_)
    refine g_step rfl (s_val (v_move rfl) rfl rfl ?_)
    refine g_split 36 rfl (fun hg36 => ?_) (fun hg36 => ?_)
    ·
     try simp only [NM] at hg36
     refine g_step_no (j := 15) (t := 36) rfl rfl rfl rfl rfl rfl rfl ?_
     refine g_step_no (j := 15) (t := 36) rfl rfl rfl rfl rfl rfl rfl ?_
     refine g_step rfl (s_val (v_pick_t rfl rfl) rfl rfl ?_)
     refine g_nil ?_
     refine g_next hK2 ?_
     refine g_cond rfl (fun _ => ?_) (fun h => by cases h)
     refine g_seq (fun K6 hK6 => ?_)
     refine g_region ?_
     refine g_step rfl (s_callp rfl rfl rfl (awake34_ok _) ?_)
     rintro _ rfl
     refine g_step rfl (s_val (v_assign rfl) rfl rfl ?_)
     refine g_nil ?_
     refine g_next hK6 ?_
     refine g_ret ?_
     refine g_then_ret ?_
     refine g_end1 (.inl rfl) Try.results10 (.tmp rfl) [] (ASub.refl _) (AHeap.sub_refl _) (fun p hp => by cases hp) ⟨rfl, ?_⟩
     rfl
    ·
     try simp only [NM] at hg36
     refine g_step_yes (j := 15) (t := 36) rfl rfl rfl rfl (s_val (v_move rfl) rfl rfl ?_)
     refine g_step_yes (j := 15) (t := 36) rfl rfl rfl rfl (s_val (v_gtr rfl rfl) rfl rfl ?_)
     refine g_step rfl (s_val (v_pick_f rfl rfl) rfl rfl ?_)
     refine g_nil ?_
     refine g_next hK2 ?_
     refine g_cond rfl (fun hc39 => ?_) (fun hc39 => ?_)
     ·
      try simp only [NM] at hc39
      refine g_seq (fun K7 hK7 => ?_)
      refine g_region ?_
      refine g_step rfl (s_callp rfl rfl rfl (awake34_ok _) ?_)
      rintro _ rfl
      refine g_step rfl (s_val (v_assign rfl) rfl rfl ?_)
      refine g_nil ?_
      refine g_next hK7 ?_
      refine g_ret ?_
      refine g_then_ret ?_
      refine g_end1 (.inl rfl) Try.results10 (.tmp rfl) [] (ASub.refl _) (AHeap.sub_refl _) (fun p hp => by cases hp) ⟨rfl, ?_⟩
      rfl
     ·
      try simp only [NM] at hc39
      obtain ⟨nn, rfl⟩ := Int.eq_ofNat_of_zero_le (a := n) (by omega)
      obtain ⟨hl30, hfew⟩ := fewMv_all (l := l) (by simpa using hg24)
      refine g_skip ?_
      refine g_next hK1 ?_
      refine g_seq (fun K8 hK8 => ?_)
      refine g_region ?_
      refine g_step rfl (s_val (v_move rfl) rfl rfl ?_)
      refine g_step rfl (s_val (v_move rfl) rfl rfl ?_)
      refine g_step rfl (s_call rfl rfl rfl (bnew_ok nn room _ (by omega) (by omega) (by omega) (by omega)) (fun _ h => h.elim) ?_)
      rintro n0 _ effs0 hn0 hdom0 ⟨d, h1, rfl, hE0, hI⟩ hok0
      have hS := (show Sep w0.heap.size H ([] ++ noH :: [noH]) from Sep.zero _ _ 2).fresh hE0 hn0 hdom0
      have hsH := hE0.frame hdom0 (AHeap.sub_refl H) (fun b hb => absurd rfl hb)
      generalize setAll H effs0 = G0 at hS hsH ⊢
      have hok := newW_ok room (n := nn) (by omega)
      refine g_step rfl (s_val (v_move rfl) rfl rfl ?_)
      refine g_step rfl (s_val (v_extract rfl rfl) rfl rfl ?_)
      refine g_step rfl (s_val (v_extract rfl rfl) rfl rfl ?_)
      refine g_step rfl (s_val (v_assign rfl) rfl rfl ?_)
      refine g_step rfl (s_val (v_assign rfl) rfl rfl ?_)
      refine g_nil ?_
      refine g_next hK8 ?_
      first | refine g_keep [2, 7, 8] [] [] (keep_cons rfl (keep_cons rfl (keep_cons rfl keep_nil))) lkeep_nil keep_nil rfl ?_ | refine g_keep [2, 7, 8] [] [] rfl rfl rfl rfl ?_
      refine g_seq (fun K9 hK9 => ?_)
      refine g_seq (fun K10 hK10 => ?_)
      refine g_region ?_
      refine g_step rfl (s_val (v_move rfl) rfl rfl ?_)
      refine g_step rfl (s_val (v_neq rfl rfl) rfl rfl ?_)
      refine g_step rfl (s_val (v_move rfl) rfl rfl ?_)
      refine g_split 49 rfl (fun hg49 => ?_) (fun hg49 => ?_)
      · exfalso; (try simp only [NM] at hg49); simp at hg49
      ·
       try simp only [NM] at hg49
       refine g_step_yes (j := 2) (t := 49) rfl rfl rfl rfl (s_val (v_move rfl) rfl rfl ?_)
       refine g_step_yes (j := 2) (t := 49) rfl rfl rfl rfl (s_val (by first | exact v_ptr_eql_nil ty78 rfl rfl rfl | exact v_nil_eql_nil ty78 rfl rfl | exact v_ptrO_eql ty78 rfl rfl) rfl rfl ?_)
       refine g_step rfl (s_val (v_pick_f rfl rfl) rfl rfl ?_)
       refine g_nil ?_
       refine g_next hK10 ?_
       refine g_cond rfl (fun hc52 => ?_) (fun hc52 => ?_)
       · exfalso; (try simp only [NM] at hc52); simp at hc52
       ·
        try simp only [NM] at hc52
        refine g_skip ?_
        refine g_next hK9 ?_
        refine g_seq (fun K11 hK11 => ?_)
        refine g_region ?_
        refine g_step rfl (s_val (v_assign rfl) rfl rfl ?_)
        refine g_nil ?_
        refine g_next hK11 ?_
        refine g_seq (fun K12 hK12 => ?_)
        refine g_seq (fun K13 hK13 => ?_)
        refine g_region ?_
        refine g_step rfl (s_val (v_assign rfl) rfl rfl ?_)
        refine g_nil ?_
        refine g_next hK13 ?_
        refine g_block ?_
        first | refine g_keep [2, 7, 9, 10] [] [] (keep_cons rfl (keep_cons rfl (keep_cons rfl (keep_cons rfl keep_nil)))) lkeep_nil keep_nil rfl ?_ | refine g_keep [2, 7, 9, 10] [] [] rfl rfl rfl rfl ?_
        refine g_loop (fun n env L B G => ∃ (k : Nat) (s : Wd) (had : List Rc) (h1 h3 : AHeap) (ad : AV), k ≤ l.length ∧ n = l.length - k ∧ env = [(2, .imm (l.map encMv)), (7, .box d 0), (9, ad), (10, .int .i64 (k : Int))] ∧ L = [] ∧ B = [] ∧ Sep w0.heap.size G [h1, h3] ∧ H.sub G ∧ WIs lmRow h1 d room s ∧ WOk room s ∧ GInv s had ∧ SV h3 7 ad (had.map encR) ∧ had.length ≤ k) (l.length) ⟨0, ⟨List.replicate nn none, List.replicate nn 0, []⟩, [], h1, noH, .nil0, Nat.zero_le _, rfl, rfl, rfl, rfl, ⟨hS, hsH, hI, hok, GInv.zero nn, .inl ⟨rfl, rfl⟩, by simp⟩⟩ (fun n env L B G hI => ?_)
        obtain ⟨k, s, had, h1, h3, ad, hk, rfl, rfl, rfl, rfl, hS, hsH, hI, hok, hGI, hD, hhl⟩ := hI
        refine g_seq (fun K14 hK14 => ?_)
        refine g_seq (fun K15 hK15 => ?_)
        refine g_region ?_
        refine g_step rfl (s_val (v_move rfl) rfl rfl ?_)
        refine g_step rfl (s_val (v_move rfl) rfl rfl ?_)
        refine g_step rfl (s_val (v_len ty76 rfl (by first | rfl | assumption) (by first | exact List.length_map .. | rfl)) rfl rfl ?_)
        refine g_step rfl (s_val (v_lss rfl rfl) rfl rfl ?_)
        refine g_nil ?_
        refine g_next hK15 ?_
        refine g_cond rfl (fun hc56 => ?_) (fun hc56 => ?_)
        ·
         try simp only [NM] at hc56
         obtain ⟨x, hx⟩ := get_some (l := l) (k := k) (by omega)
         obtain ⟨hxn', hxs⟩ := hfew x (mem_get hx)
         have hxn : x.recs.length ≤ 1000 := by omega
         have hv1 := view_ok hok x.node
         refine g_skip ?_
         refine g_next hK14 ?_
         refine g_seq (fun K16 hK16 => ?_)
         refine g_block ?_
         refine g_seq (fun K17 hK17 => ?_)
         refine g_region ?_
         refine g_step rfl (s_val (v_move rfl) rfl rfl ?_)
         refine g_step rfl (s_val (v_move rfl) rfl rfl ?_)
         refine g_step rfl (s_val (v_indexAddr ty76 ty87 rfl rfl (by first | rfl | assumption) (by first | rfl | exact (rfl : (0 : Int) = ((0 : Nat) : Int)) | exact (Int.toNat_of_nonneg (by omega)).symm) (map_get hx) rfl) rfl rfl ?_)
         refine g_step rfl (s_val (by first | exact v_fieldAddr ty87 fo87_1 ty3 rfl | exact v_fieldAddr_box ty87 fo87_1 ty3 rfl) rfl rfl ?_)
         refine g_step rfl (s_val (by first | exact v_load ty3 rfl rfl (by first | rfl | assumption) (map_get hx) rfl | exact v_load_box ty3 rfl rfl (by assumption) rfl) rfl rfl ?_)
         refine g_step rfl (s_val (v_assign rfl) rfl rfl ?_)
         refine g_nil ?_
         refine g_next hK17 ?_
         refine g_seq (fun K18 hK18 => ?_)
         refine g_region ?_
         refine g_step rfl (s_val (v_move rfl) rfl rfl ?_)
         refine g_step rfl (s_val (v_move rfl) rfl rfl ?_)
         refine g_step rfl (s_callp rfl rfl rfl (vw_ok h1 d room s x.node _ hI (hS.1 h1 (by simp)).1 hok) ?_)
         rintro _ rfl
         refine g_step rfl (s_val (v_assign rfl) rfl rfl ?_)
         refine g_nil ?_
         refine g_next hK18 ?_
         refine g_seq (fun K19 hK19 => ?_)
         refine g_region ?_
         refine g_step rfl (s_val (v_move rfl) rfl rfl ?_)
         refine g_step rfl (s_val (v_move rfl) rfl rfl ?_)
         refine g_step rfl (s_callp rfl rfl rfl (up_ok h1 d room s x.node _ hI (hS.1 h1 (by simp)).1 hok) ?_)
         rintro _ rfl
         refine g_step rfl (s_val (v_assign rfl) rfl rfl ?_)
         refine g_nil ?_
         refine g_next hK19 ?_
         refine g_seq (fun K20 hK20 => ?_)
         refine g_region ?_
         refine g_step rfl (s_val (v_move rfl) rfl rfl ?_)
         refine g_step rfl (s_val (v_move rfl) rfl rfl ?_)
         refine g_step rfl (s_val (v_move rfl) rfl rfl ?_)
         refine g_step rfl (s_val (v_indexAddr ty76 ty87 rfl rfl (by first | rfl | assumption) (by first | rfl | exact (rfl : (0 : Int) = ((0 : Nat) : Int)) | exact (Int.toNat_of_nonneg (by omega)).symm) (map_get hx) rfl) rfl rfl ?_)
         refine g_step rfl (s_val (by first | exact v_load_elt ty87 rfl rfl (by first | rfl | assumption) (map_get hx) rfl rfl | exact v_load_box_all ty87 rfl rfl (by assumption) rfl rfl | exact v_load_part (cs := [_, _, _, _, _, _]) ty87 rfl rfl (by first | rfl | assumption) (map_get hx) rfl rfl rfl | exact v_load_box_part (cs := [_, _, _, _, _, _]) ty87 rfl rfl (by assumption) rfl rfl rfl) rfl rfl ?_)
         refine g_step rfl (s_call rfl rfl rfl (wDo_ok h1 d room s x _ hI (hS.1 h1 (by simp)).1 hok hxn hxs (by omega) (by omega)) (fun b hb => .inr ((hS.1 h1 (by simp)).2 b hb)) ?_)
         rintro n1 _ effs1 hn1 hdom1 ⟨rfl, h2, hE, hI2⟩ hok1
         have hS2 := hS.turn (l1 := []) hE hn1 hdom1
         have hsH2 := hE.frame hdom1 hsH (fun b hb => hw0 b ((hS.1 h1 (by simp)).2 b hb))
         have hok2 := DoW_ok (x := x) hok (by omega) (by omega) hxn
         have hlen2 := DoW_len room s x
         have hun := DoW_under (x := x) hok
         have hsame := @DoW_same room s x
         have hGI2 := hGI.move (x := x) hok (by omega) (by omega) hxn
         generalize (DoW room s x).1 = s2 at hI2 hok2 hlen2 hun hsame hGI2
         generalize (DoW room s x).2 = e2 at hsame ⊢
         generalize setAll _ effs1 = G2 at hS2 hsH2 ⊢
         have hv2 := view_ok hok2 x.node
         refine g_step rfl (s_val (v_assign rfl) rfl rfl ?_)
         refine g_nil ?_
         refine g_next hK20 ?_
         first | refine g_keep [2, 7, 9, 10, 11, 12, 13, 14] [] [] (keep_cons rfl (keep_cons rfl (keep_cons rfl (keep_cons rfl (keep_cons rfl (keep_cons rfl (keep_cons rfl (keep_cons rfl keep_nil)))))))) lkeep_nil keep_nil rfl ?_ | refine g_keep [2, 7, 9, 10, 11, 12, 13, 14] [] [] rfl rfl rfl rfl ?_
         refine g_seq (fun K21 hK21 => ?_)
         refine g_region ?_
         refine g_step rfl (s_val (v_move rfl) rfl rfl ?_)
         refine g_step rfl (s_val (v_move rfl) rfl rfl ?_)
         refine g_step rfl (s_callp rfl rfl rfl (vw_ok h2 d room s2 x.node _ hI2 (hS2.1 h2 (by simp)).1 hok2) ?_)
         rintro _ rfl
         refine g_step rfl (s_val (v_assign rfl) rfl rfl ?_)
         refine g_nil ?_
         refine g_next hK21 ?_
         refine g_cut (fun env L B G => ∃ (s2 : Wd) (h2 : AHeap), env = [(2, .imm (l.map encMv)), (7, .box d 0), (9, ad), (10, .int .i64 (k : Int)), (11, .int .i64 x.node), (15, (encRs (viewW s2 x.node)))] ∧ L = [] ∧ B = [] ∧ Sep w0.heap.size G [h2, h3] ∧ H.sub G ∧ WIs lmRow h2 d room s2 ∧ WOk room s2 ∧ GInv s2 (hadG had s2 x.node)) ?_ (fun env L B G hI => ?_)
         ·
          refine g_seq (fun K22 hK22 => ?_)
          refine g_region ?_
          refine g_step rfl (s_val (v_move rfl) rfl rfl ?_)
          refine g_step rfl (s_val (v_move rfl) rfl rfl ?_)
          refine g_split 80 rfl (fun hg80 => ?_) (fun hg80 => ?_)
          ·
           try simp only [NM] at hg80
           refine g_step_yes (j := 1) (t := 80) rfl rfl rfl rfl (s_val (v_move rfl) rfl rfl ?_)
           refine g_step_yes (j := 1) (t := 80) rfl rfl rfl rfl (s_val (v_move rfl) rfl rfl ?_)
           refine g_step_yes (j := 1) (t := 80) rfl rfl rfl rfl (s_callp rfl rfl rfl (up_ok h2 d room s2 x.node _ hI2 (hS2.1 h2 (by simp)).1 hok2) ?_)
           rintro _ rfl
           refine g_step rfl (s_val (v_pick_t rfl rfl) rfl rfl ?_)
           refine g_step rfl (s_val (v_move rfl) rfl rfl ?_)
           refine g_split 85 rfl (fun hg85 => ?_) (fun hg85 => ?_)
           ·
            try simp only [NM] at hg85
            refine g_step_yes (j := 6) (t := 85) rfl rfl rfl rfl (s_val (v_move rfl) rfl rfl ?_)
            refine g_step_yes (j := 6) (t := 85) rfl rfl rfl rfl (s_val (v_move rfl) rfl rfl ?_)
            refine g_step_yes (j := 6) (t := 85) rfl rfl rfl rfl (s_callp rfl rfl rfl (under_ok (viewW s x.node) (viewW s2 x.node) _ _ _ rfl rfl (by omega) (by omega) hv1.2 hv2.2) ?_)
            rintro _ rfl
            refine g_step_yes (j := 6) (t := 85) rfl rfl rfl rfl (s_val (v_not rfl) rfl rfl ?_)
            refine g_step rfl (s_val (v_pick_t rfl rfl) rfl rfl ?_)
            refine g_step rfl (s_val (v_move rfl) rfl rfl ?_)
            refine g_split 91 rfl (fun hg91 => ?_) (fun hg91 => ?_)
            · exfalso; (try simp only [NM] at hg91); first | (rw [hun (by assumption) (by assumption)] at hg91; simp at hg91; done) | (simp_all; done)
            ·
             try simp only [NM] at hg91
             refine g_step_yes (j := 12) (t := 91) rfl rfl rfl rfl (s_val (v_move rfl) rfl rfl ?_)
             refine g_step_yes (j := 12) (t := 91) rfl rfl rfl rfl (s_val (v_neq rfl rfl) rfl rfl ?_)
             refine g_step_yes (j := 12) (t := 91) rfl rfl rfl rfl (s_val (v_move rfl) rfl rfl ?_)
             refine g_split 94 rfl (fun hg94 => ?_) (fun hg94 => ?_)
             ·
              try simp only [NM] at hg94
              refine g_step_yes (j := 15) (t := 94) rfl rfl rfl rfl (s_val (v_move rfl) rfl rfl ?_)
              refine g_step_yes (j := 15) (t := 94) rfl rfl rfl rfl (s_val (v_move rfl) rfl rfl ?_)
              refine g_step_yes (j := 15) (t := 94) rfl rfl rfl rfl (s_callp rfl rfl rfl (allAlike_ok (viewW s x.node) (viewW s2 x.node) _ _ _ rfl rfl (by omega) hv1.2) ?_)
              rintro _ rfl
              refine g_step_yes (j := 15) (t := 94) rfl rfl rfl rfl (s_val (v_not rfl) rfl rfl ?_)
              refine g_step_yes (j := 12) (t := 91) rfl rfl rfl rfl (s_val (v_pick_t rfl rfl) rfl rfl ?_)
              refine g_step rfl (s_val (v_pick_f rfl rfl) rfl rfl ?_)
              refine g_nil ?_
              refine g_next hK22 ?_
              first | refine g_keep [2, 7, 9, 10, 11, 15, 100] [] [] (keep_cons rfl (keep_cons rfl (keep_cons rfl (keep_cons rfl (keep_cons rfl (keep_cons rfl (keep_cons rfl keep_nil))))))) lkeep_nil keep_nil rfl ?_ | refine g_keep [2, 7, 9, 10, 11, 15, 100] [] [] rfl rfl rfl rfl ?_
              refine g_cond rfl (fun hc100 => ?_) (fun hc100 => ?_)
              · exfalso; (try simp only [NM] at hc100); first | exact hc100 (by rw [hsame hg94]) | (have h9 := hsame hg94; simp_all; done)
              ·
               try simp only [NM] at hc100
               refine g_skip ?_
               first | refine g_keep [2, 7, 9, 10, 11, 15] [] [] (keep_cons rfl (keep_cons rfl (keep_cons rfl (keep_cons rfl (keep_cons rfl (keep_cons rfl keep_nil)))))) lkeep_nil keep_nil rfl ?_ | refine g_keep [2, 7, 9, 10, 11, 15] [] [] rfl rfl rfl rfl ?_
               first | exact g_has ⟨s2, h2, rfl, rfl, rfl, ⟨hS2, hsH2, hI2, hok2, hGI2⟩⟩
             ·
              try simp only [NM] at hg94
              refine g_step_no (j := 15) (t := 94) rfl rfl rfl rfl rfl rfl rfl ?_
              refine g_step_no (j := 15) (t := 94) rfl rfl rfl rfl rfl rfl rfl ?_
              refine g_step_no (j := 15) (t := 94) rfl rfl rfl rfl rfl rfl rfl ?_
              refine g_step_no (j := 15) (t := 94) rfl rfl rfl rfl rfl rfl rfl ?_
              refine g_step_yes (j := 12) (t := 91) rfl rfl rfl rfl (s_val (v_pick_f rfl rfl) rfl rfl ?_)
              refine g_step rfl (s_val (v_pick_f rfl rfl) rfl rfl ?_)
              refine g_nil ?_
              refine g_next hK22 ?_
              first | refine g_keep [2, 7, 9, 10, 11, 15, 100] [] [] (keep_cons rfl (keep_cons rfl (keep_cons rfl (keep_cons rfl (keep_cons rfl (keep_cons rfl (keep_cons rfl keep_nil))))))) lkeep_nil keep_nil rfl ?_ | refine g_keep [2, 7, 9, 10, 11, 15, 100] [] [] rfl rfl rfl rfl ?_
              refine g_cond rfl (fun h => by cases h) (fun _ => ?_)
              refine g_skip ?_
              first | refine g_keep [2, 7, 9, 10, 11, 15] [] [] (keep_cons rfl (keep_cons rfl (keep_cons rfl (keep_cons rfl (keep_cons rfl (keep_cons rfl keep_nil)))))) lkeep_nil keep_nil rfl ?_ | refine g_keep [2, 7, 9, 10, 11, 15] [] [] rfl rfl rfl rfl ?_
              first | exact g_has ⟨s2, h2, rfl, rfl, rfl, ⟨hS2, hsH2, hI2, hok2, hGI2⟩⟩
           ·
            try simp only [NM] at hg85
            refine g_step_no (j := 6) (t := 85) rfl rfl rfl rfl rfl rfl rfl ?_
            refine g_step_no (j := 6) (t := 85) rfl rfl rfl rfl rfl rfl rfl ?_
            refine g_step_no (j := 6) (t := 85) rfl rfl rfl rfl rfl rfl rfl ?_
            refine g_step_no (j := 6) (t := 85) rfl rfl rfl rfl rfl rfl rfl ?_
            refine g_step rfl (s_val (v_pick_f rfl rfl) rfl rfl ?_)
            refine g_step rfl (s_val (v_move rfl) rfl rfl ?_)
            refine g_step_yes (j := 12) (t := 91) rfl rfl rfl rfl (s_val (v_move rfl) rfl rfl ?_)
            refine g_step_yes (j := 12) (t := 91) rfl rfl rfl rfl (s_val (v_neq rfl rfl) rfl rfl ?_)
            refine g_step_yes (j := 12) (t := 91) rfl rfl rfl rfl (s_val (v_move rfl) rfl rfl ?_)
            refine g_split 94 rfl (fun hg94 => ?_) (fun hg94 => ?_)
            ·
             try simp only [NM] at hg94
             refine g_step_yes (j := 15) (t := 94) rfl rfl rfl rfl (s_val (v_move rfl) rfl rfl ?_)
             refine g_step_yes (j := 15) (t := 94) rfl rfl rfl rfl (s_val (v_move rfl) rfl rfl ?_)
             refine g_step_yes (j := 15) (t := 94) rfl rfl rfl rfl (s_callp rfl rfl rfl (allAlike_ok (viewW s x.node) (viewW s2 x.node) _ _ _ rfl rfl (by omega) hv1.2) ?_)
             rintro _ rfl
             refine g_step_yes (j := 15) (t := 94) rfl rfl rfl rfl (s_val (v_not rfl) rfl rfl ?_)
             refine g_step_yes (j := 12) (t := 91) rfl rfl rfl rfl (s_val (v_pick_t rfl rfl) rfl rfl ?_)
             refine g_step rfl (s_val (v_pick_f rfl rfl) rfl rfl ?_)
             refine g_nil ?_
             refine g_next hK22 ?_
             first | refine g_keep [2, 7, 9, 10, 11, 15, 100] [] [] (keep_cons rfl (keep_cons rfl (keep_cons rfl (keep_cons rfl (keep_cons rfl (keep_cons rfl (keep_cons rfl keep_nil))))))) lkeep_nil keep_nil rfl ?_ | refine g_keep [2, 7, 9, 10, 11, 15, 100] [] [] rfl rfl rfl rfl ?_
             refine g_cond rfl (fun hc100 => ?_) (fun hc100 => ?_)
             · exfalso; (try simp only [NM] at hc100); first | exact hc100 (by rw [hsame hg94]) | (have h9 := hsame hg94; simp_all; done)
             ·
              try simp only [NM] at hc100
              refine g_skip ?_
              first | refine g_keep [2, 7, 9, 10, 11, 15] [] [] (keep_cons rfl (keep_cons rfl (keep_cons rfl (keep_cons rfl (keep_cons rfl (keep_cons rfl keep_nil)))))) lkeep_nil keep_nil rfl ?_ | refine g_keep [2, 7, 9, 10, 11, 15] [] [] rfl rfl rfl rfl ?_
              first | exact g_has ⟨s2, h2, rfl, rfl, rfl, ⟨hS2, hsH2, hI2, hok2, hGI2⟩⟩
            ·
             try simp only [NM] at hg94
             refine g_step_no (j := 15) (t := 94) rfl rfl rfl rfl rfl rfl rfl ?_
             refine g_step_no (j := 15) (t := 94) rfl rfl rfl rfl rfl rfl rfl ?_
             refine g_step_no (j := 15) (t := 94) rfl rfl rfl rfl rfl rfl rfl ?_
             refine g_step_no (j := 15) (t := 94) rfl rfl rfl rfl rfl rfl rfl ?_
             refine g_step_yes (j := 12) (t := 91) rfl rfl rfl rfl (s_val (v_pick_f rfl rfl) rfl rfl ?_)
             refine g_step rfl (s_val (v_pick_f rfl rfl) rfl rfl ?_)
             refine g_nil ?_
             refine g_next hK22 ?_
             first | refine g_keep [2, 7, 9, 10, 11, 15, 100] [] [] (keep_cons rfl (keep_cons rfl (keep_cons rfl (keep_cons rfl (keep_cons rfl (keep_cons rfl (keep_cons rfl keep_nil))))))) lkeep_nil keep_nil rfl ?_ | refine g_keep [2, 7, 9, 10, 11, 15, 100] [] [] rfl rfl rfl rfl ?_
             refine g_cond rfl (fun h => by cases h) (fun _ => ?_)
             refine g_skip ?_
             first | refine g_keep [2, 7, 9, 10, 11, 15] [] [] (keep_cons rfl (keep_cons rfl (keep_cons rfl (keep_cons rfl (keep_cons rfl (keep_cons rfl keep_nil)))))) lkeep_nil keep_nil rfl ?_ | refine g_keep [2, 7, 9, 10, 11, 15] [] [] rfl rfl rfl rfl ?_
             first | exact g_has ⟨s2, h2, rfl, rfl, rfl, ⟨hS2, hsH2, hI2, hok2, hGI2⟩⟩
          ·
           try simp only [NM] at hg80
           refine g_step_no (j := 1) (t := 80) rfl rfl rfl rfl rfl rfl rfl ?_
           refine g_step_no (j := 1) (t := 80) rfl rfl rfl rfl rfl rfl rfl ?_
           refine g_step_no (j := 1) (t := 80) rfl rfl rfl rfl rfl rfl rfl ?_
           refine g_step rfl (s_val (v_pick_f rfl rfl) rfl rfl ?_)
           refine g_step rfl (s_val (v_move rfl) rfl rfl ?_)
           refine g_step_no (j := 6) (t := 85) rfl rfl rfl rfl rfl rfl rfl ?_
           refine g_step_no (j := 6) (t := 85) rfl rfl rfl rfl rfl rfl rfl ?_
           refine g_step_no (j := 6) (t := 85) rfl rfl rfl rfl rfl rfl rfl ?_
           refine g_step_no (j := 6) (t := 85) rfl rfl rfl rfl rfl rfl rfl ?_
           refine g_step rfl (s_val (v_pick_f rfl rfl) rfl rfl ?_)
           refine g_step rfl (s_val (v_move rfl) rfl rfl ?_)
           refine g_step_yes (j := 12) (t := 91) rfl rfl rfl rfl (s_val (v_move rfl) rfl rfl ?_)
           refine g_step_yes (j := 12) (t := 91) rfl rfl rfl rfl (s_val (v_neq rfl rfl) rfl rfl ?_)
           refine g_step_yes (j := 12) (t := 91) rfl rfl rfl rfl (s_val (v_move rfl) rfl rfl ?_)
           refine g_split 94 rfl (fun hg94 => ?_) (fun hg94 => ?_)
           ·
            try simp only [NM] at hg94
            refine g_step_yes (j := 15) (t := 94) rfl rfl rfl rfl (s_val (v_move rfl) rfl rfl ?_)
            refine g_step_yes (j := 15) (t := 94) rfl rfl rfl rfl (s_val (v_move rfl) rfl rfl ?_)
            refine g_step_yes (j := 15) (t := 94) rfl rfl rfl rfl (s_callp rfl rfl rfl (allAlike_ok (viewW s x.node) (viewW s2 x.node) _ _ _ rfl rfl (by omega) hv1.2) ?_)
            rintro _ rfl
            refine g_step_yes (j := 15) (t := 94) rfl rfl rfl rfl (s_val (v_not rfl) rfl rfl ?_)
            refine g_step_yes (j := 12) (t := 91) rfl rfl rfl rfl (s_val (v_pick_t rfl rfl) rfl rfl ?_)
            refine g_step rfl (s_val (v_pick_f rfl rfl) rfl rfl ?_)
            refine g_nil ?_
            refine g_next hK22 ?_
            first | refine g_keep [2, 7, 9, 10, 11, 15, 100] [] [] (keep_cons rfl (keep_cons rfl (keep_cons rfl (keep_cons rfl (keep_cons rfl (keep_cons rfl (keep_cons rfl keep_nil))))))) lkeep_nil keep_nil rfl ?_ | refine g_keep [2, 7, 9, 10, 11, 15, 100] [] [] rfl rfl rfl rfl ?_
            refine g_cond rfl (fun hc100 => ?_) (fun hc100 => ?_)
            · exfalso; (try simp only [NM] at hc100); first | exact hc100 (by rw [hsame hg94]) | (have h9 := hsame hg94; simp_all; done)
            ·
             try simp only [NM] at hc100
             refine g_skip ?_
             first | refine g_keep [2, 7, 9, 10, 11, 15] [] [] (keep_cons rfl (keep_cons rfl (keep_cons rfl (keep_cons rfl (keep_cons rfl (keep_cons rfl keep_nil)))))) lkeep_nil keep_nil rfl ?_ | refine g_keep [2, 7, 9, 10, 11, 15] [] [] rfl rfl rfl rfl ?_
             first | exact g_has ⟨s2, h2, rfl, rfl, rfl, ⟨hS2, hsH2, hI2, hok2, hGI2⟩⟩
           ·
            try simp only [NM] at hg94
            refine g_step_no (j := 15) (t := 94) rfl rfl rfl rfl rfl rfl rfl ?_
            refine g_step_no (j := 15) (t := 94) rfl rfl rfl rfl rfl rfl rfl ?_
            refine g_step_no (j := 15) (t := 94) rfl rfl rfl rfl rfl rfl rfl ?_
            refine g_step_no (j := 15) (t := 94) rfl rfl rfl rfl rfl rfl rfl ?_
            refine g_step_yes (j := 12) (t := 91) rfl rfl rfl rfl (s_val (v_pick_f rfl rfl) rfl rfl ?_)
            refine g_step rfl (s_val (v_pick_f rfl rfl) rfl rfl ?_)
            refine g_nil ?_
            refine g_next hK22 ?_
            first | refine g_keep [2, 7, 9, 10, 11, 15, 100] [] [] (keep_cons rfl (keep_cons rfl (keep_cons rfl (keep_cons rfl (keep_cons rfl (keep_cons rfl (keep_cons rfl keep_nil))))))) lkeep_nil keep_nil rfl ?_ | refine g_keep [2, 7, 9, 10, 11, 15, 100] [] [] rfl rfl rfl rfl ?_
            refine g_cond rfl (fun h => by cases h) (fun _ => ?_)
            refine g_skip ?_
            first | refine g_keep [2, 7, 9, 10, 11, 15] [] [] (keep_cons rfl (keep_cons rfl (keep_cons rfl (keep_cons rfl (keep_cons rfl (keep_cons rfl keep_nil)))))) lkeep_nil keep_nil rfl ?_ | refine g_keep [2, 7, 9, 10, 11, 15] [] [] rfl rfl rfl rfl ?_
            first | exact g_has ⟨s2, h2, rfl, rfl, rfl, ⟨hS2, hsH2, hI2, hok2, hGI2⟩⟩
         ·
          obtain ⟨s2, h2, rfl, rfl, rfl, hS2, hsH2, hI2, hok2, hGI2⟩ := hI
          have hv2 := view_ok hok2 x.node
          refine g_cut (fun env L B G => ∃ (s2 : Wd) (had2 : List Rc) (h2 h4 : AHeap) (ad2 : AV), env = [(2, .imm (l.map encMv)), (7, .box d 0), (9, ad2), (10, .int .i64 (k : Int)), (15, (encRs (viewW s2 x.node)))] ∧ L = [] ∧ B = [] ∧ Sep w0.heap.size G [h2, h4] ∧ H.sub G ∧ WIs lmRow h2 d room s2 ∧ WOk room s2 ∧ GInv s2 had2 ∧ SV h4 7 ad2 (had2.map encR) ∧ had2.length ≤ k + 1) ?_ (fun env L B G hI => ?_)
          ·
           refine g_seq (fun K23 hK23 => ?_)
           refine g_region ?_
           refine g_step rfl (s_val (v_move rfl) rfl rfl ?_)
           refine g_step rfl (s_val (v_move rfl) rfl rfl ?_)
           refine g_step rfl (s_callp rfl rfl rfl (up_ok h2 d room s2 x.node _ hI2 (hS2.1 h2 (by simp)).1 hok2) ?_)
           rintro _ rfl
           refine g_nil ?_
           refine g_next hK23 ?_
           refine g_cond rfl (fun hc103 => ?_) (fun hc103 => ?_)
           ·
            try simp only [NM] at hc103
            refine g_seq (fun K24 hK24 => ?_)
            refine g_region ?_
            refine g_step rfl (s_val (v_move rfl) rfl rfl ?_)
            refine g_step rfl (s_val (v_move rfl) rfl rfl ?_)
            refine g_step rfl (s_callp rfl rfl rfl (find_ok (viewW s2 x.node) x.node _ _ rfl (by omega) hv2.2) ?_)
            rintro _ rfl
            refine g_step rfl (s_val (v_move rfl) rfl rfl ?_)
            refine g_step rfl (s_val (v_extract rfl rfl) rfl rfl ?_)
            refine g_step rfl (s_val (v_extract rfl rfl) rfl rfl ?_)
            refine g_step rfl (s_alloc (av := (.agg [(.int .i64 0), (.int .i64 0), (.int .i64 0), (.int .i64 0), (.int .i64 0), (.bool false), .nil0])) ty46 rfl rfl rfl rfl ?_)
            refine g_step rfl (s_store_all ty46 rfl rfl rfl rfl rfl rfl ?_)
            refine g_step rfl (s_val (v_assign rfl) rfl rfl ?_)
            refine g_nil ?_
            refine g_next hK24 ?_
            refine g_seq (fun K25 hK25 => ?_)
            refine g_seq (fun K26 hK26 => ?_)
            refine g_region ?_
            refine g_step rfl (s_val (v_move rfl) rfl rfl ?_)
            refine g_step rfl (s_val (v_not rfl) rfl rfl ?_)
            refine g_nil ?_
            refine g_next hK26 ?_
            refine g_cond rfl (fun hc111 => ?_) (fun hc111 => ?_)
            · exfalso; (try simp only [NM] at hc111); rw [view_find hok2 (by assumption)] at hc111; simp at hc111
            ·
             try simp only [NM] at hc111
             refine g_skip ?_
             refine g_next hK25 ?_
             refine g_region ?_
             refine g_step rfl (s_val (v_move rfl) rfl rfl ?_)
             refine g_step rfl (s_val (by first | exact v_loadl_all ty46 rfl rfl rfl rfl rfl | exact v_loadl_part (cs := [_, _, _, _, _, _, _]) ty46 rfl rfl rfl rfl rfl rfl) rfl rfl ?_)
             refine g_step rfl (s_lit ty22 ty46 rfl rfl rfl rfl rfl rfl rfl ?_)
             refine g_step rfl (s_appendV (l := (had.map encR)) (m := ([(rfind (viewW s2 x.node) x.node).1].map encR)) ty22 ty46 rfl rfl (hS2.sv (l1 := [h2]) (l2 := []) hD) rfl rfl (by refine Even.map _ ?_ _; intro _; rfl) (by intro x hx; obtain ⟨_, _, rfl⟩ := List.mem_map.1 hx; rfl) rfl (by simp) (by simp; omega) (by simp; omega) ?_)
             intro r' hr'
             rw [← List.map_append]
             have hS4 := hS2.put (l1 := [h2]) (l2 := []) (x := .row 7 ((had ++ [(rfind (viewW s2 x.node) x.node).1]).map encR)) (sv_here hD hr')
             have hsH4 := sub_set' hsH2 (hw0 _ (by rcases sv_here hD hr' with g | g; exact g.2; exact (hS2.1 h3 (by simp)).2 _ g)) (x := .row 7 ((had ++ [(rfind (viewW s2 x.node) x.node).1]).map encR))
             refine g_step rfl (s_val (v_assign rfl) rfl rfl ?_)
             refine g_nil ?_
             first | refine g_keep [2, 7, 9, 10, 15] [] [] (keep_cons rfl (keep_cons rfl (keep_cons rfl (keep_cons rfl (keep_cons rfl keep_nil))))) lkeep_nil keep_nil rfl ?_ | refine g_keep [2, 7, 9, 10, 15] [] [] rfl rfl rfl rfl ?_
             first | exact g_has ⟨s2, had ++ [(rfind (viewW s2 x.node) x.node).1], h2, oneH r' (.row 7 ((had ++ [(rfind (viewW s2 x.node) x.node).1]).map encR)), _, rfl, rfl, rfl, ⟨hS4, hsH4, hI2, hok2, by rw [hadG, if_pos (by assumption)] at hGI2; exact hGI2, .inr ⟨r', rfl, oneH_get _ _⟩, by simp; omega⟩⟩ | exact g_has ⟨s2, had, h2, h3, ad, rfl, rfl, rfl, ⟨hS2, hsH2, hI2, hok2, by rw [hadG, if_neg (by simp_all)] at hGI2; exact hGI2, hD, by omega⟩⟩
           ·
            try simp only [NM] at hc103
            refine g_skip ?_
            first | refine g_keep [2, 7, 9, 10, 15] [] [] (keep_cons rfl (keep_cons rfl (keep_cons rfl (keep_cons rfl (keep_cons rfl keep_nil))))) lkeep_nil keep_nil rfl ?_ | refine g_keep [2, 7, 9, 10, 15] [] [] rfl rfl rfl rfl ?_
            first | exact g_has ⟨s2, had ++ [(rfind (viewW s2 x.node) x.node).1], h2, oneH r' (.row 7 ((had ++ [(rfind (viewW s2 x.node) x.node).1]).map encR)), _, rfl, rfl, rfl, ⟨hS4, hsH4, hI2, hok2, by rw [hadG, if_pos (by assumption)] at hGI2; exact hGI2, .inr ⟨r', rfl, oneH_get _ _⟩, by simp; omega⟩⟩ | exact g_has ⟨s2, had, h2, h3, ad, rfl, rfl, rfl, ⟨hS2, hsH2, hI2, hok2, by rw [hadG, if_neg (by simp_all)] at hGI2; exact hGI2, hD, by omega⟩⟩
          ·
           obtain ⟨s2, had2, h2, h4, ad2, rfl, rfl, rfl, hS2, hsH2, hI2, hok2, hGI2, hD2, hhl2⟩ := hI
           have hv2 := view_ok hok2 x.node
           have hsee := hGI2.view x.node
           refine g_seq (fun K27 hK27 => ?_)
           refine g_region ?_
           refine g_step rfl (s_val (v_assign rfl) rfl rfl ?_)
           refine g_nil ?_
           refine g_next hK27 ?_
           refine g_block ?_
           first | refine g_keep [2, 7, 9, 10, 15, 18] [] [] (keep_cons rfl (keep_cons rfl (keep_cons rfl (keep_cons rfl (keep_cons rfl (keep_cons rfl keep_nil)))))) lkeep_nil keep_nil rfl ?_ | refine g_keep [2, 7, 9, 10, 15, 18] [] [] rfl rfl rfl rfl ?_
           refine g_loop (fun n env L B G => ∃ (j : Nat) , j ≤ (viewW s2 x.node).length ∧ n = (viewW s2 x.node).length - j ∧ env = [(2, .imm (l.map encMv)), (7, .box d 0), (9, ad2), (10, .int .i64 (k : Int)), (15, (encRs (viewW s2 x.node))), (18, .int .i64 (j : Int))] ∧ L = [] ∧ B = [] ∧ Sep w0.heap.size G [h2, h4] ∧ H.sub G) ((viewW s2 x.node).length) ⟨0, Nat.zero_le _, rfl, rfl, rfl, rfl, ⟨hS2, hsH2⟩⟩ (fun n env L B G hI => ?_)
           obtain ⟨j, hj, rfl, rfl, rfl, rfl, hS3, hsH3⟩ := hI
           refine g_seq (fun K28 hK28 => ?_)
           refine g_seq (fun K29 hK29 => ?_)
           refine g_region ?_
           refine g_step rfl (s_val (v_move rfl) rfl rfl ?_)
           refine g_step rfl (s_val (v_move rfl) rfl rfl ?_)
           refine g_step rfl (s_val (v_len ty22 rfl (by first | rfl | assumption) (by first | exact List.length_map .. | rfl)) rfl rfl ?_)
           refine g_step rfl (s_val (v_lss rfl rfl) rfl rfl ?_)
           refine g_nil ?_
           refine g_next hK29 ?_
           refine g_cond rfl (fun hc119 => ?_) (fun hc119 => ?_)
           ·
            try simp only [NM] at hc119
            obtain ⟨y, hy⟩ := get_some (l := (viewW s2 x.node)) (k := j) (by omega)
            have hany := had_any (hsee y (mem_get hy))
            refine g_skip ?_
            refine g_next hK28 ?_
            refine g_seq (fun K30 hK30 => ?_)
            refine g_block ?_
            refine g_seq (fun K31 hK31 => ?_)
            refine g_region ?_
            refine g_step rfl (s_val (v_assign rfl) rfl rfl ?_)
            refine g_nil ?_
            refine g_next hK31 ?_
            refine g_seq (fun K32 hK32 => ?_)
            refine g_seq (fun K33 hK33 => ?_)
            refine g_region ?_
            refine g_step rfl (s_val (v_assign rfl) rfl rfl ?_)
            refine g_nil ?_
            refine g_next hK33 ?_
            refine g_block ?_
            first | refine g_keep [2, 7, 9, 10, 15, 18, 19, 20] [] [] (keep_cons rfl (keep_cons rfl (keep_cons rfl (keep_cons rfl (keep_cons rfl (keep_cons rfl (keep_cons rfl (keep_cons rfl keep_nil)))))))) lkeep_nil keep_nil rfl ?_ | refine g_keep [2, 7, 9, 10, 15, 18, 19, 20] [] [] rfl rfl rfl rfl ?_
            refine g_loop (fun n env L B G => ∃ (q : Nat) (fl : Bool), q ≤ had2.length ∧ n = had2.length - q ∧ env = [(2, .imm (l.map encMv)), (7, .box d 0), (9, ad2), (10, .int .i64 (k : Int)), (15, (encRs (viewW s2 x.node))), (18, .int .i64 (j : Int)), (19, .bool fl), (20, .int .i64 (q : Int))] ∧ L = [] ∧ B = [] ∧ fl = (had2.take q).any (hadB y) ∧ Sep w0.heap.size G [h2, h4] ∧ H.sub G) (had2.length) ⟨0, false, Nat.zero_le _, rfl, rfl, rfl, rfl, ⟨rfl, hS3, hsH3⟩⟩ (fun n env L B G hI => ?_)
            obtain ⟨q, fl, hq, rfl, rfl, rfl, rfl, hfl, hS3, hsH3⟩ := hI
            refine g_seq (fun K34 hK34 => ?_)
            refine g_seq (fun K35 hK35 => ?_)
            refine g_region ?_
            refine g_step rfl (s_val (v_move rfl) rfl rfl ?_)
            refine g_step rfl (s_val (v_move rfl) rfl rfl ?_)
            refine g_step rfl (s_val (v_len ty22 rfl ((hD2.mono (hS3.1 h4 (by simp)).1).view) (by first | exact List.length_map .. | rfl)) rfl rfl ?_)
            refine g_step rfl (s_val (v_lss rfl rfl) rfl rfl ?_)
            refine g_nil ?_
            refine g_next hK35 ?_
            refine g_cond rfl (fun hc125 => ?_) (fun hc125 => ?_)
            ·
             try simp only [NM] at hc125
             obtain ⟨z, hz⟩ := get_some (l := had2) (k := q) (by omega)
             refine g_skip ?_
             refine g_next hK34 ?_
             refine g_seq (fun K36 hK36 => ?_)
             refine g_block ?_
             refine g_seq (fun K37 hK37 => ?_)
             refine g_draw (n := 54) (fun j => !([] : List Nat).contains j) rfl rfl ?_
             refine m_tk 0 false rfl rfl (by kernel_rfl) (v_move rfl) rfl rfl ?_
             refine m_tk 1 false rfl rfl (by kernel_rfl) (v_move rfl) rfl rfl ?_
             refine m_tk 2 false rfl rfl (by kernel_rfl) (v_indexAddr ty22 ty46 rfl rfl ((hD2.mono (hS3.1 h4 (by simp)).1).view) (by first | rfl | exact (rfl : (0 : Int) = ((0 : Nat) : Int)) | exact (Int.toNat_of_nonneg (by omega)).symm) (map_get hz) rfl) rfl rfl ?_
             refine m_tk 3 false rfl rfl (by kernel_rfl) (by first | exact v_fieldAddr ty46 fo46_0 ty3 rfl | exact v_fieldAddr_box ty46 fo46_0 ty3 rfl) rfl rfl ?_
             refine m_tk 4 true rfl rfl (by kernel_rfl) (by first | exact v_load ty3 rfl rfl ((hD2.mono (hS3.1 h4 (by simp)).1).view) (map_get hz) rfl | exact v_load_box ty3 rfl rfl (by assumption) rfl) rfl rfl ?_
             refine m_tk 5 false rfl rfl (by kernel_rfl) (v_move rfl) rfl rfl ?_
             refine m_tk 6 false rfl rfl (by kernel_rfl) (v_move rfl) rfl rfl ?_
             refine m_tk 7 false rfl rfl (by kernel_rfl) (v_indexAddr ty22 ty46 rfl rfl (by first | rfl | assumption) (by first | rfl | exact (rfl : (0 : Int) = ((0 : Nat) : Int)) | exact (Int.toNat_of_nonneg (by omega)).symm) (map_get hy) rfl) rfl rfl ?_
             refine m_tk 8 false rfl rfl (by kernel_rfl) (by first | exact v_fieldAddr ty46 fo46_0 ty3 rfl | exact v_fieldAddr_box ty46 fo46_0 ty3 rfl) rfl rfl ?_
             refine m_tk 9 true rfl rfl (by kernel_rfl) (by first | exact v_load ty3 rfl rfl (by first | rfl | assumption) (map_get hy) rfl | exact v_load_box ty3 rfl rfl (by assumption) rfl) rfl rfl ?_
             refine m_tk 10 false rfl rfl (by kernel_rfl) (v_eql rfl rfl) rfl rfl ?_
             refine m_tk 11 false rfl rfl (by kernel_rfl) (v_move rfl) rfl rfl ?_
             refine m_split 139 rfl (fun hg139 => ?_) (fun hg139 => ?_)
             ·
              try simp only [NM] at hg139
              refine m_take_yes (j := 11) (t := 139) 12 false rfl rfl rfl rfl rfl (by kernel_rfl) (by kernel_rfl) (by kernel_rfl) (fun _ _ _ _ h => h) (v_move rfl) rfl rfl ?_
              refine m_take_yes (j := 11) (t := 139) 13 false rfl rfl rfl rfl rfl (by kernel_rfl) (by kernel_rfl) (by kernel_rfl) (fun _ _ _ _ h => h) (v_move rfl) rfl rfl ?_
              refine m_take_yes (j := 11) (t := 139) 14 false rfl rfl rfl rfl rfl (by kernel_rfl) (by kernel_rfl) (by kernel_rfl) (fun _ _ _ _ h => h) (v_indexAddr ty22 ty46 rfl rfl ((hD2.mono (hS3.1 h4 (by simp)).1).view) (by first | rfl | exact (rfl : (0 : Int) = ((0 : Nat) : Int)) | exact (Int.toNat_of_nonneg (by omega)).symm) (map_get hz) rfl) rfl rfl ?_
              refine m_take_yes (j := 11) (t := 139) 15 false rfl rfl rfl rfl rfl (by kernel_rfl) (by kernel_rfl) (by kernel_rfl) (fun _ _ _ _ h => h) (by first | exact v_fieldAddr ty46 fo46_1 ty3 rfl | exact v_fieldAddr_box ty46 fo46_1 ty3 rfl) rfl rfl ?_
              refine m_take_yes (j := 11) (t := 139) 16 true rfl rfl rfl rfl rfl (by kernel_rfl) (by kernel_rfl) (by kernel_rfl) (fun _ _ _ _ h => h) (by first | exact v_load ty3 rfl rfl ((hD2.mono (hS3.1 h4 (by simp)).1).view) (map_get hz) rfl | exact v_load_box ty3 rfl rfl (by assumption) rfl) rfl rfl ?_
              refine m_take_yes (j := 11) (t := 139) 17 false rfl rfl rfl rfl rfl (by kernel_rfl) (by kernel_rfl) (by kernel_rfl) (fun _ _ _ _ h => h) (v_move rfl) rfl rfl ?_
              refine m_take_yes (j := 11) (t := 139) 18 false rfl rfl rfl rfl rfl (by kernel_rfl) (by kernel_rfl) (by kernel_rfl) (fun _ _ _ _ h => h) (v_move rfl) rfl rfl ?_
              refine m_take_yes (j := 11) (t := 139) 19 false rfl rfl rfl rfl rfl (by kernel_rfl) (by kernel_rfl) (by kernel_rfl) (fun _ _ _ _ h => h) (v_indexAddr ty22 ty46 rfl rfl (by first | rfl | assumption) (by first | rfl | exact (rfl : (0 : Int) = ((0 : Nat) : Int)) | exact (Int.toNat_of_nonneg (by omega)).symm) (map_get hy) rfl) rfl rfl ?_
              refine m_take_yes (j := 11) (t := 139) 20 false rfl rfl rfl rfl rfl (by kernel_rfl) (by kernel_rfl) (by kernel_rfl) (fun _ _ _ _ h => h) (by first | exact v_fieldAddr ty46 fo46_1 ty3 rfl | exact v_fieldAddr_box ty46 fo46_1 ty3 rfl) rfl rfl ?_
              refine m_take_yes (j := 11) (t := 139) 21 true rfl rfl rfl rfl rfl (by kernel_rfl) (by kernel_rfl) (by kernel_rfl) (fun _ _ _ _ h => h) (by first | exact v_load ty3 rfl rfl (by first | rfl | assumption) (map_get hy) rfl | exact v_load_box ty3 rfl rfl (by assumption) rfl) rfl rfl ?_
              refine m_take_yes (j := 11) (t := 139) 22 false rfl rfl rfl rfl rfl (by kernel_rfl) (by kernel_rfl) (by kernel_rfl) (fun _ _ _ _ h => h) (v_eql rfl rfl) rfl rfl ?_
              refine m_tk 23 false rfl rfl (by kernel_rfl) (v_pick_t rfl rfl) rfl rfl ?_
              refine m_tk 24 false rfl rfl (by kernel_rfl) (v_move rfl) rfl rfl ?_
              refine m_split 152 rfl (fun hg152 => ?_) (fun hg152 => ?_)
              ·
               try simp only [NM] at hg152
               refine m_take_yes (j := 24) (t := 152) 25 false rfl rfl rfl rfl rfl (by kernel_rfl) (by kernel_rfl) (by kernel_rfl) (fun _ _ _ _ h => h) (v_move rfl) rfl rfl ?_
               refine m_take_yes (j := 24) (t := 152) 26 false rfl rfl rfl rfl rfl (by kernel_rfl) (by kernel_rfl) (by kernel_rfl) (fun _ _ _ _ h => h) (v_move rfl) rfl rfl ?_
               refine m_take_yes (j := 24) (t := 152) 27 false rfl rfl rfl rfl rfl (by kernel_rfl) (by kernel_rfl) (by kernel_rfl) (fun _ _ _ _ h => h) (v_indexAddr ty22 ty46 rfl rfl ((hD2.mono (hS3.1 h4 (by simp)).1).view) (by first | rfl | exact (rfl : (0 : Int) = ((0 : Nat) : Int)) | exact (Int.toNat_of_nonneg (by omega)).symm) (map_get hz) rfl) rfl rfl ?_
               refine m_take_yes (j := 24) (t := 152) 28 false rfl rfl rfl rfl rfl (by kernel_rfl) (by kernel_rfl) (by kernel_rfl) (fun _ _ _ _ h => h) (by first | exact v_fieldAddr ty46 fo46_3 ty43 rfl | exact v_fieldAddr_box ty46 fo46_3 ty43 rfl) rfl rfl ?_
               refine m_take_yes (j := 24) (t := 152) 29 false rfl rfl rfl rfl rfl (by kernel_rfl) (by kernel_rfl) (by kernel_rfl) (fun _ _ _ _ h => h) (by first | exact v_fieldAddr ty43 fo43_0 ty3 rfl | exact v_fieldAddr_box ty43 fo43_0 ty3 rfl) rfl rfl ?_
               refine m_take_yes (j := 24) (t := 152) 30 true rfl rfl rfl rfl rfl (by kernel_rfl) (by kernel_rfl) (by kernel_rfl) (fun _ _ _ _ h => h) (by first | exact v_load ty3 rfl rfl ((hD2.mono (hS3.1 h4 (by simp)).1).view) (map_get hz) rfl | exact v_load_box ty3 rfl rfl (by assumption) rfl) rfl rfl ?_
               refine m_take_yes (j := 24) (t := 152) 31 false rfl rfl rfl rfl rfl (by kernel_rfl) (by kernel_rfl) (by kernel_rfl) (fun _ _ _ _ h => h) (v_move rfl) rfl rfl ?_
               refine m_take_yes (j := 24) (t := 152) 32 false rfl rfl rfl rfl rfl (by kernel_rfl) (by kernel_rfl) (by kernel_rfl) (fun _ _ _ _ h => h) (v_move rfl) rfl rfl ?_
               refine m_take_yes (j := 24) (t := 152) 33 false rfl rfl rfl rfl rfl (by kernel_rfl) (by kernel_rfl) (by kernel_rfl) (fun _ _ _ _ h => h) (v_indexAddr ty22 ty46 rfl rfl (by first | rfl | assumption) (by first | rfl | exact (rfl : (0 : Int) = ((0 : Nat) : Int)) | exact (Int.toNat_of_nonneg (by omega)).symm) (map_get hy) rfl) rfl rfl ?_
               refine m_take_yes (j := 24) (t := 152) 34 false rfl rfl rfl rfl rfl (by kernel_rfl) (by kernel_rfl) (by kernel_rfl) (fun _ _ _ _ h => h) (by first | exact v_fieldAddr ty46 fo46_3 ty43 rfl | exact v_fieldAddr_box ty46 fo46_3 ty43 rfl) rfl rfl ?_
               refine m_take_yes (j := 24) (t := 152) 35 false rfl rfl rfl rfl rfl (by kernel_rfl) (by kernel_rfl) (by kernel_rfl) (fun _ _ _ _ h => h) (by first | exact v_fieldAddr ty43 fo43_0 ty3 rfl | exact v_fieldAddr_box ty43 fo43_0 ty3 rfl) rfl rfl ?_
               refine m_take_yes (j := 24) (t := 152) 36 true rfl rfl rfl rfl rfl (by kernel_rfl) (by kernel_rfl) (by kernel_rfl) (fun _ _ _ _ h => h) (by first | exact v_load ty3 rfl rfl (by first | rfl | assumption) (map_get hy) rfl | exact v_load_box ty3 rfl rfl (by assumption) rfl) rfl rfl ?_
               refine m_take_yes (j := 24) (t := 152) 37 false rfl rfl rfl rfl rfl (by kernel_rfl) (by kernel_rfl) (by kernel_rfl) (fun _ _ _ _ h => h) (v_eql rfl rfl) rfl rfl ?_
               refine m_tk 38 false rfl rfl (by kernel_rfl) (v_pick_t rfl rfl) rfl rfl ?_
               refine m_tk 39 false rfl rfl (by kernel_rfl) (v_move rfl) rfl rfl ?_
               refine m_split 167 rfl (fun hg167 => ?_) (fun hg167 => ?_)
               ·
                try simp only [NM] at hg167
                refine m_take_yes (j := 39) (t := 167) 40 false rfl rfl rfl rfl rfl (by kernel_rfl) (by kernel_rfl) (by kernel_rfl) (fun _ _ _ _ h => h) (v_move rfl) rfl rfl ?_
                refine m_take_yes (j := 39) (t := 167) 41 false rfl rfl rfl rfl rfl (by kernel_rfl) (by kernel_rfl) (by kernel_rfl) (fun _ _ _ _ h => h) (v_move rfl) rfl rfl ?_
                refine m_take_yes (j := 39) (t := 167) 42 false rfl rfl rfl rfl rfl (by kernel_rfl) (by kernel_rfl) (by kernel_rfl) (fun _ _ _ _ h => h) (v_indexAddr ty22 ty46 rfl rfl ((hD2.mono (hS3.1 h4 (by simp)).1).view) (by first | rfl | exact (rfl : (0 : Int) = ((0 : Nat) : Int)) | exact (Int.toNat_of_nonneg (by omega)).symm) (map_get hz) rfl) rfl rfl ?_
                refine m_take_yes (j := 39) (t := 167) 43 false rfl rfl rfl rfl rfl (by kernel_rfl) (by kernel_rfl) (by kernel_rfl) (fun _ _ _ _ h => h) (by first | exact v_fieldAddr ty46 fo46_3 ty43 rfl | exact v_fieldAddr_box ty46 fo46_3 ty43 rfl) rfl rfl ?_
                refine m_take_yes (j := 39) (t := 167) 44 false rfl rfl rfl rfl rfl (by kernel_rfl) (by kernel_rfl) (by kernel_rfl) (fun _ _ _ _ h => h) (by first | exact v_fieldAddr ty43 fo43_1 ty3 rfl | exact v_fieldAddr_box ty43 fo43_1 ty3 rfl) rfl rfl ?_
                refine m_take_yes (j := 39) (t := 167) 45 true rfl rfl rfl rfl rfl (by kernel_rfl) (by kernel_rfl) (by kernel_rfl) (fun _ _ _ _ h => h) (by first | exact v_load ty3 rfl rfl ((hD2.mono (hS3.1 h4 (by simp)).1).view) (map_get hz) rfl | exact v_load_box ty3 rfl rfl (by assumption) rfl) rfl rfl ?_
                refine m_take_yes (j := 39) (t := 167) 46 false rfl rfl rfl rfl rfl (by kernel_rfl) (by kernel_rfl) (by kernel_rfl) (fun _ _ _ _ h => h) (v_move rfl) rfl rfl ?_
                refine m_take_yes (j := 39) (t := 167) 47 false rfl rfl rfl rfl rfl (by kernel_rfl) (by kernel_rfl) (by kernel_rfl) (fun _ _ _ _ h => h) (v_move rfl) rfl rfl ?_
                refine m_take_yes (j := 39) (t := 167) 48 false rfl rfl rfl rfl rfl (by kernel_rfl) (by kernel_rfl) (by kernel_rfl) (fun _ _ _ _ h => h) (v_indexAddr ty22 ty46 rfl rfl (by first | rfl | assumption) (by first | rfl | exact (rfl : (0 : Int) = ((0 : Nat) : Int)) | exact (Int.toNat_of_nonneg (by omega)).symm) (map_get hy) rfl) rfl rfl ?_
                refine m_take_yes (j := 39) (t := 167) 49 false rfl rfl rfl rfl rfl (by kernel_rfl) (by kernel_rfl) (by kernel_rfl) (fun _ _ _ _ h => h) (by first | exact v_fieldAddr ty46 fo46_3 ty43 rfl | exact v_fieldAddr_box ty46 fo46_3 ty43 rfl) rfl rfl ?_
                refine m_take_yes (j := 39) (t := 167) 50 false rfl rfl rfl rfl rfl (by kernel_rfl) (by kernel_rfl) (by kernel_rfl) (fun _ _ _ _ h => h) (by first | exact v_fieldAddr ty43 fo43_1 ty3 rfl | exact v_fieldAddr_box ty43 fo43_1 ty3 rfl) rfl rfl ?_
                refine m_take_yes (j := 39) (t := 167) 51 true rfl rfl rfl rfl rfl (by kernel_rfl) (by kernel_rfl) (by kernel_rfl) (fun _ _ _ _ h => h) (by first | exact v_load ty3 rfl rfl (by first | rfl | assumption) (map_get hy) rfl | exact v_load_box ty3 rfl rfl (by assumption) rfl) rfl rfl ?_
                refine m_take_yes (j := 39) (t := 167) 52 false rfl rfl rfl rfl rfl (by kernel_rfl) (by kernel_rfl) (by kernel_rfl) (fun _ _ _ _ h => h) (v_eql rfl rfl) rfl rfl ?_
                refine m_tk 53 false rfl rfl (by kernel_rfl) (v_pick_t rfl rfl) rfl rfl ?_
                refine m_done (by kernel_rfl) ?_
                refine g_next hK37 ?_
                first | refine g_keep [2, 7, 9, 10, 15, 18, 19, 20, 181] [] [] (keep_cons rfl (keep_cons rfl (keep_cons rfl (keep_cons rfl (keep_cons rfl (keep_cons rfl (keep_cons rfl (keep_cons rfl (keep_cons rfl keep_nil))))))))) lkeep_nil keep_nil rfl ?_ | refine g_keep [2, 7, 9, 10, 15, 18, 19, 20, 181] [] [] rfl rfl rfl rfl ?_
                refine g_cond rfl (fun hc181 => ?_) (fun hc181 => ?_)
                ·
                 try simp only [NM] at hc181
                 refine g_region ?_
                 refine g_step rfl (s_val (v_assign rfl) rfl rfl ?_)
                 refine g_nil ?_
                 refine g_block_normal ?_
                 refine g_next hK36 ?_
                 refine g_region ?_
                 refine g_step rfl (s_val (v_move rfl) rfl rfl ?_)
                 refine g_step rfl (s_val (v_add rfl rfl (by omega)) rfl rfl ?_)
                 refine g_step rfl (s_val (v_assign rfl) rfl rfl ?_)
                 refine g_nil ?_
                 first | refine g_keep [2, 7, 9, 10, 15, 18, 19, 20] [] [] (keep_cons rfl (keep_cons rfl (keep_cons rfl (keep_cons rfl (keep_cons rfl (keep_cons rfl (keep_cons rfl (keep_cons rfl keep_nil)))))))) lkeep_nil keep_nil rfl ?_ | refine g_keep [2, 7, 9, 10, 15, 18, 19, 20] [] [] rfl rfl rfl rfl ?_
                 first | exact g_round _ (by omega) ⟨q + 1, true, by omega, rfl, rfl, rfl, rfl, ⟨by rw [any_snoc hz, show hadB y z = true from by simp_all [hadB]]; simp, hS3, hsH3⟩⟩ | exact g_round _ (by omega) ⟨q + 1, fl, by omega, rfl, rfl, rfl, rfl, ⟨by rw [any_snoc hz, ← hfl, show hadB y z = false from by simp_all [hadB]]; simp, hS3, hsH3⟩⟩
                ·
                 try simp only [NM] at hc181
                 refine g_skip ?_
                 refine g_block_normal ?_
                 refine g_next hK36 ?_
                 refine g_region ?_
                 refine g_step rfl (s_val (v_move rfl) rfl rfl ?_)
                 refine g_step rfl (s_val (v_add rfl rfl (by omega)) rfl rfl ?_)
                 refine g_step rfl (s_val (v_assign rfl) rfl rfl ?_)
                 refine g_nil ?_
                 first | refine g_keep [2, 7, 9, 10, 15, 18, 19, 20] [] [] (keep_cons rfl (keep_cons rfl (keep_cons rfl (keep_cons rfl (keep_cons rfl (keep_cons rfl (keep_cons rfl (keep_cons rfl keep_nil)))))))) lkeep_nil keep_nil rfl ?_ | refine g_keep [2, 7, 9, 10, 15, 18, 19, 20] [] [] rfl rfl rfl rfl ?_
                 first | exact g_round _ (by omega) ⟨q + 1, true, by omega, rfl, rfl, rfl, rfl, ⟨by rw [any_snoc hz, show hadB y z = true from by simp_all [hadB]]; simp, hS3, hsH3⟩⟩ | exact g_round _ (by omega) ⟨q + 1, fl, by omega, rfl, rfl, rfl, rfl, ⟨by rw [any_snoc hz, ← hfl, show hadB y z = false from by simp_all [hadB]]; simp, hS3, hsH3⟩⟩
               ·
                try simp only [NM] at hg167
                refine m_take_no (j := 39) (t := 167) 40 rfl rfl rfl rfl rfl rfl (by kernel_rfl) (by kernel_rfl) (by kernel_rfl) (fun _ _ _ _ h => h) rfl rfl ?_
                refine m_take_no (j := 39) (t := 167) 41 rfl rfl rfl rfl rfl rfl (by kernel_rfl) (by kernel_rfl) (by kernel_rfl) (fun _ _ _ _ h => h) rfl rfl ?_
                refine m_take_no (j := 39) (t := 167) 42 rfl rfl rfl rfl rfl rfl (by kernel_rfl) (by kernel_rfl) (by kernel_rfl) (fun _ _ _ _ h => h) rfl rfl ?_
                refine m_take_no (j := 39) (t := 167) 43 rfl rfl rfl rfl rfl rfl (by kernel_rfl) (by kernel_rfl) (by kernel_rfl) (fun _ _ _ _ h => h) rfl rfl ?_
                refine m_take_no (j := 39) (t := 167) 44 rfl rfl rfl rfl rfl rfl (by kernel_rfl) (by kernel_rfl) (by kernel_rfl) (fun _ _ _ _ h => h) rfl rfl ?_
                refine m_take_no (j := 39) (t := 167) 45 rfl rfl rfl rfl rfl rfl (by kernel_rfl) (by kernel_rfl) (by kernel_rfl) (fun _ _ _ _ h => h) rfl rfl ?_
                refine m_take_no (j := 39) (t := 167) 46 rfl rfl rfl rfl rfl rfl (by kernel_rfl) (by kernel_rfl) (by kernel_rfl) (fun _ _ _ _ h => h) rfl rfl ?_
                refine m_take_no (j := 39) (t := 167) 47 rfl rfl rfl rfl rfl rfl (by kernel_rfl) (by kernel_rfl) (by kernel_rfl) (fun _ _ _ _ h => h) rfl rfl ?_
                refine m_take_no (j := 39) (t := 167) 48 rfl rfl rfl rfl rfl rfl (by kernel_rfl) (by kernel_rfl) (by kernel_rfl) (fun _ _ _ _ h => h) rfl rfl ?_
                refine m_take_no (j := 39) (t := 167) 49 rfl rfl rfl rfl rfl rfl (by kernel_rfl) (by kernel_rfl) (by kernel_rfl) (fun _ _ _ _ h => h) rfl rfl ?_
                refine m_take_no (j := 39) (t := 167) 50 rfl rfl rfl rfl rfl rfl (by kernel_rfl) (by kernel_rfl) (by kernel_rfl) (fun _ _ _ _ h => h) rfl rfl ?_
                refine m_take_no (j := 39) (t := 167) 51 rfl rfl rfl rfl rfl rfl (by kernel_rfl) (by kernel_rfl) (by kernel_rfl) (fun _ _ _ _ h => h) rfl rfl ?_
                refine m_take_no (j := 39) (t := 167) 52 rfl rfl rfl rfl rfl rfl (by kernel_rfl) (by kernel_rfl) (by kernel_rfl) (fun _ _ _ _ h => h) rfl rfl ?_
                refine m_tk 53 false rfl rfl (by kernel_rfl) (v_pick_f rfl rfl) rfl rfl ?_
                refine m_done (by kernel_rfl) ?_
                refine g_next hK37 ?_
                first | refine g_keep [2, 7, 9, 10, 15, 18, 19, 20, 181] [] [] (keep_cons rfl (keep_cons rfl (keep_cons rfl (keep_cons rfl (keep_cons rfl (keep_cons rfl (keep_cons rfl (keep_cons rfl (keep_cons rfl keep_nil))))))))) lkeep_nil keep_nil rfl ?_ | refine g_keep [2, 7, 9, 10, 15, 18, 19, 20, 181] [] [] rfl rfl rfl rfl ?_
                refine g_cond rfl (fun h => by cases h) (fun _ => ?_)
                refine g_skip ?_
                refine g_block_normal ?_
                refine g_next hK36 ?_
                refine g_region ?_
                refine g_step rfl (s_val (v_move rfl) rfl rfl ?_)
                refine g_step rfl (s_val (v_add rfl rfl (by omega)) rfl rfl ?_)
                refine g_step rfl (s_val (v_assign rfl) rfl rfl ?_)
                refine g_nil ?_
                first | refine g_keep [2, 7, 9, 10, 15, 18, 19, 20] [] [] (keep_cons rfl (keep_cons rfl (keep_cons rfl (keep_cons rfl (keep_cons rfl (keep_cons rfl (keep_cons rfl (keep_cons rfl keep_nil)))))))) lkeep_nil keep_nil rfl ?_ | refine g_keep [2, 7, 9, 10, 15, 18, 19, 20] [] [] rfl rfl rfl rfl ?_
                first | exact g_round _ (by omega) ⟨q + 1, true, by omega, rfl, rfl, rfl, rfl, ⟨by rw [any_snoc hz, show hadB y z = true from by simp_all [hadB]]; simp, hS3, hsH3⟩⟩ | exact g_round _ (by omega) ⟨q + 1, fl, by omega, rfl, rfl, rfl, rfl, ⟨by rw [any_snoc hz, ← hfl, show hadB y z = false from by simp_all [hadB]]; simp, hS3, hsH3⟩⟩
              ·
               try simp only [NM] at hg152
               refine m_take_no (j := 24) (t := 152) 25 rfl rfl rfl rfl rfl rfl (by kernel_rfl) (by kernel_rfl) (by kernel_rfl) (fun _ _ _ _ h => h) rfl rfl ?_
               refine m_take_no (j := 24) (t := 152) 26 rfl rfl rfl rfl rfl rfl (by kernel_rfl) (by kernel_rfl) (by kernel_rfl) (fun _ _ _ _ h => h) rfl rfl ?_
               refine m_take_no (j := 24) (t := 152) 27 rfl rfl rfl rfl rfl rfl (by kernel_rfl) (by kernel_rfl) (by kernel_rfl) (fun _ _ _ _ h => h) rfl rfl ?_
               refine m_take_no (j := 24) (t := 152) 28 rfl rfl rfl rfl rfl rfl (by kernel_rfl) (by kernel_rfl) (by kernel_rfl) (fun _ _ _ _ h => h) rfl rfl ?_
               refine m_take_no (j := 24) (t := 152) 29 rfl rfl rfl rfl rfl rfl (by kernel_rfl) (by kernel_rfl) (by kernel_rfl) (fun _ _ _ _ h => h) rfl rfl ?_
               refine m_take_no (j := 24) (t := 152) 30 rfl rfl rfl rfl rfl rfl (by kernel_rfl) (by kernel_rfl) (by kernel_rfl) (fun _ _ _ _ h => h) rfl rfl ?_
               refine m_take_no (j := 24) (t := 152) 31 rfl rfl rfl rfl rfl rfl (by kernel_rfl) (by kernel_rfl) (by kernel_rfl) (fun _ _ _ _ h => h) rfl rfl ?_
               refine m_take_no (j := 24) (t := 152) 32 rfl rfl rfl rfl rfl rfl (by kernel_rfl) (by kernel_rfl) (by kernel_rfl) (fun _ _ _ _ h => h) rfl rfl ?_
               refine m_take_no (j := 24) (t := 152) 33 rfl rfl rfl rfl rfl rfl (by kernel_rfl) (by kernel_rfl) (by kernel_rfl) (fun _ _ _ _ h => h) rfl rfl ?_
               refine m_take_no (j := 24) (t := 152) 34 rfl rfl rfl rfl rfl rfl (by kernel_rfl) (by kernel_rfl) (by kernel_rfl) (fun _ _ _ _ h => h) rfl rfl ?_
               refine m_take_no (j := 24) (t := 152) 35 rfl rfl rfl rfl rfl rfl (by kernel_rfl) (by kernel_rfl) (by kernel_rfl) (fun _ _ _ _ h => h) rfl rfl ?_
               refine m_take_no (j := 24) (t := 152) 36 rfl rfl rfl rfl rfl rfl (by kernel_rfl) (by kernel_rfl) (by kernel_rfl) (fun _ _ _ _ h => h) rfl rfl ?_
               refine m_take_no (j := 24) (t := 152) 37 rfl rfl rfl rfl rfl rfl (by kernel_rfl) (by kernel_rfl) (by kernel_rfl) (fun _ _ _ _ h => h) rfl rfl ?_
               refine m_tk 38 false rfl rfl (by kernel_rfl) (v_pick_f rfl rfl) rfl rfl ?_
               refine m_tk 39 false rfl rfl (by kernel_rfl) (v_move rfl) rfl rfl ?_
               refine m_take_no (j := 39) (t := 167) 40 rfl rfl rfl rfl rfl rfl (by kernel_rfl) (by kernel_rfl) (by kernel_rfl) (fun _ _ _ _ h => h) rfl rfl ?_
               refine m_take_no (j := 39) (t := 167) 41 rfl rfl rfl rfl rfl rfl (by kernel_rfl) (by kernel_rfl) (by kernel_rfl) (fun _ _ _ _ h => h) rfl rfl ?_
               refine m_take_no (j := 39) (t := 167) 42 rfl rfl rfl rfl rfl rfl (by kernel_rfl) (by kernel_rfl) (by kernel_rfl) (fun _ _ _ _ h => h) rfl rfl ?_
               refine m_take_no (j := 39) (t := 167) 43 rfl rfl rfl rfl rfl rfl (by kernel_rfl) (by kernel_rfl) (by kernel_rfl) (fun _ _ _ _ h => h) rfl rfl ?_
               refine m_take_no (j := 39) (t := 167) 44 rfl rfl rfl rfl rfl rfl (by kernel_rfl) (by kernel_rfl) (by kernel_rfl) (fun _ _ _ _ h => h) rfl rfl ?_
               refine m_take_no (j := 39) (t := 167) 45 rfl rfl rfl rfl rfl rfl (by kernel_rfl) (by kernel_rfl) (by kernel_rfl) (fun _ _ _ _ h => h) rfl rfl ?_
               refine m_take_no (j := 39) (t := 167) 46 rfl rfl rfl rfl rfl rfl (by kernel_rfl) (by kernel_rfl) (by kernel_rfl) (fun _ _ _ _ h => h) rfl rfl ?_
               refine m_take_no (j := 39) (t := 167) 47 rfl rfl rfl rfl rfl rfl (by kernel_rfl) (by kernel_rfl) (by kernel_rfl) (fun _ _ _ _ h => h) rfl rfl ?_
               refine m_take_no (j := 39) (t := 167) 48 rfl rfl rfl rfl rfl rfl (by kernel_rfl) (by kernel_rfl) (by kernel_rfl) (fun _ _ _ _ h => h) rfl rfl ?_
               refine m_take_no (j := 39) (t := 167) 49 rfl rfl rfl rfl rfl rfl (by kernel_rfl) (by kernel_rfl) (by kernel_rfl) (fun _ _ _ _ h => h) rfl rfl ?_
               refine m_take_no (j := 39) (t := 167) 50 rfl rfl rfl rfl rfl rfl (by kernel_rfl) (by kernel_rfl) (by kernel_rfl) (fun _ _ _ _ h => h) rfl rfl ?_
               refine m_take_no (j := 39) (t := 167) 51 rfl rfl rfl rfl rfl rfl (by kernel_rfl) (by kernel_rfl) (by kernel_rfl) (fun _ _ _ _ h => h) rfl rfl ?_
               refine m_take_no (j := 39) (t := 167) 52 rfl rfl rfl rfl rfl rfl (by kernel_rfl) (by kernel_rfl) (by kernel_rfl) (fun _ _ _ _ h => h) rfl rfl ?_
               refine m_tk 53 false rfl rfl (by kernel_rfl) (v_pick_f rfl rfl) rfl rfl ?_
               refine m_done (by kernel_rfl) ?_
               refine g_next hK37 ?_
               first | refine g_keep [2, 7, 9, 10, 15, 18, 19, 20, 181] [] [] (keep_cons rfl (keep_cons rfl (keep_cons rfl (keep_cons rfl (keep_cons rfl (keep_cons rfl (keep_cons rfl (keep_cons rfl (keep_cons rfl keep_nil))))))))) lkeep_nil keep_nil rfl ?_ | refine g_keep [2, 7, 9, 10, 15, 18, 19, 20, 181] [] [] rfl rfl rfl rfl ?_
               refine g_cond rfl (fun h => by cases h) (fun _ => ?_)
               refine g_skip ?_
               refine g_block_normal ?_
               refine g_next hK36 ?_
               refine g_region ?_
               refine g_step rfl (s_val (v_move rfl) rfl rfl ?_)
               refine g_step rfl (s_val (v_add rfl rfl (by omega)) rfl rfl ?_)
               refine g_step rfl (s_val (v_assign rfl) rfl rfl ?_)
               refine g_nil ?_
               first | refine g_keep [2, 7, 9, 10, 15, 18, 19, 20] [] [] (keep_cons rfl (keep_cons rfl (keep_cons rfl (keep_cons rfl (keep_cons rfl (keep_cons rfl (keep_cons rfl (keep_cons rfl keep_nil)))))))) lkeep_nil keep_nil rfl ?_ | refine g_keep [2, 7, 9, 10, 15, 18, 19, 20] [] [] rfl rfl rfl rfl ?_
               first | exact g_round _ (by omega) ⟨q + 1, true, by omega, rfl, rfl, rfl, rfl, ⟨by rw [any_snoc hz, show hadB y z = true from by simp_all [hadB]]; simp, hS3, hsH3⟩⟩ | exact g_round _ (by omega) ⟨q + 1, fl, by omega, rfl, rfl, rfl, rfl, ⟨by rw [any_snoc hz, ← hfl, show hadB y z = false from by simp_all [hadB]]; simp, hS3, hsH3⟩⟩
             ·
              try simp only [NM] at hg139
              refine m_take_no (j := 11) (t := 139) 12 rfl rfl rfl rfl rfl rfl (by kernel_rfl) (by kernel_rfl) (by kernel_rfl) (fun _ _ _ _ h => h) rfl rfl ?_
              refine m_take_no (j := 11) (t := 139) 13 rfl rfl rfl rfl rfl rfl (by kernel_rfl) (by kernel_rfl) (by kernel_rfl) (fun _ _ _ _ h => h) rfl rfl ?_
              refine m_take_no (j := 11) (t := 139) 14 rfl rfl rfl rfl rfl rfl (by kernel_rfl) (by kernel_rfl) (by kernel_rfl) (fun _ _ _ _ h => h) rfl rfl ?_
              refine m_take_no (j := 11) (t := 139) 15 rfl rfl rfl rfl rfl rfl (by kernel_rfl) (by kernel_rfl) (by kernel_rfl) (fun _ _ _ _ h => h) rfl rfl ?_
              refine m_take_no (j := 11) (t := 139) 16 rfl rfl rfl rfl rfl rfl (by kernel_rfl) (by kernel_rfl) (by kernel_rfl) (fun _ _ _ _ h => h) rfl rfl ?_
              refine m_take_no (j := 11) (t := 139) 17 rfl rfl rfl rfl rfl rfl (by kernel_rfl) (by kernel_rfl) (by kernel_rfl) (fun _ _ _ _ h => h) rfl rfl ?_
              refine m_take_no (j := 11) (t := 139) 18 rfl rfl rfl rfl rfl rfl (by kernel_rfl) (by kernel_rfl) (by kernel_rfl) (fun _ _ _ _ h => h) rfl rfl ?_
              refine m_take_no (j := 11) (t := 139) 19 rfl rfl rfl rfl rfl rfl (by kernel_rfl) (by kernel_rfl) (by kernel_rfl) (fun _ _ _ _ h => h) rfl rfl ?_
              refine m_take_no (j := 11) (t := 139) 20 rfl rfl rfl rfl rfl rfl (by kernel_rfl) (by kernel_rfl) (by kernel_rfl) (fun _ _ _ _ h => h) rfl rfl ?_
              refine m_take_no (j := 11) (t := 139) 21 rfl rfl rfl rfl rfl rfl (by kernel_rfl) (by kernel_rfl) (by kernel_rfl) (fun _ _ _ _ h => h) rfl rfl ?_
              refine m_take_no (j := 11) (t := 139) 22 rfl rfl rfl rfl rfl rfl (by kernel_rfl) (by kernel_rfl) (by kernel_rfl) (fun _ _ _ _ h => h) rfl rfl ?_
              refine m_tk 23 false rfl rfl (by kernel_rfl) (v_pick_f rfl rfl) rfl rfl ?_
              refine m_tk 24 false rfl rfl (by kernel_rfl) (v_move rfl) rfl rfl ?_
              refine m_take_no (j := 24) (t := 152) 25 rfl rfl rfl rfl rfl rfl (by kernel_rfl) (by kernel_rfl) (by kernel_rfl) (fun _ _ _ _ h => h) rfl rfl ?_
              refine m_take_no (j := 24) (t := 152) 26 rfl rfl rfl rfl rfl rfl (by kernel_rfl) (by kernel_rfl) (by kernel_rfl) (fun _ _ _ _ h => h) rfl rfl ?_
              refine m_take_no (j := 24) (t := 152) 27 rfl rfl rfl rfl rfl rfl (by kernel_rfl) (by kernel_rfl) (by kernel_rfl) (fun _ _ _ _ h => h) rfl rfl ?_
              refine m_take_no (j := 24) (t := 152) 28 rfl rfl rfl rfl rfl rfl (by kernel_rfl) (by kernel_rfl) (by kernel_rfl) (fun _ _ _ _ h => h) rfl rfl ?_
              refine m_take_no (j := 24) (t := 152) 29 rfl rfl rfl rfl rfl rfl (by kernel_rfl) (by kernel_rfl) (by kernel_rfl) (fun _ _ _ _ h => h) rfl rfl ?_
              refine m_take_no (j := 24) (t := 152) 30 rfl rfl rfl rfl rfl rfl (by kernel_rfl) (by kernel_rfl) (by kernel_rfl) (fun _ _ _ _ h => h) rfl rfl ?_
              refine m_take_no (j := 24) (t := 152) 31 rfl rfl rfl rfl rfl rfl (by kernel_rfl) (by kernel_rfl) (by kernel_rfl) (fun _ _ _ _ h => h) rfl rfl ?_
              refine m_take_no (j := 24) (t := 152) 32 rfl rfl rfl rfl rfl rfl (by kernel_rfl) (by kernel_rfl) (by kernel_rfl) (fun _ _ _ _ h => h) rfl rfl ?_
              refine m_take_no (j := 24) (t := 152) 33 rfl rfl rfl rfl rfl rfl (by kernel_rfl) (by kernel_rfl) (by kernel_rfl) (fun _ _ _ _ h => h) rfl rfl ?_
              refine m_take_no (j := 24) (t := 152) 34 rfl rfl rfl rfl rfl rfl (by kernel_rfl) (by kernel_rfl) (by kernel_rfl) (fun _ _ _ _ h => h) rfl rfl ?_
              refine m_take_no (j := 24) (t := 152) 35 rfl rfl rfl rfl rfl rfl (by kernel_rfl) (by kernel_rfl) (by kernel_rfl) (fun _ _ _ _ h => h) rfl rfl ?_
              refine m_take_no (j := 24) (t := 152) 36 rfl rfl rfl rfl rfl rfl (by kernel_rfl) (by kernel_rfl) (by kernel_rfl) (fun _ _ _ _ h => h) rfl rfl ?_
              refine m_take_no (j := 24) (t := 152) 37 rfl rfl rfl rfl rfl rfl (by kernel_rfl) (by kernel_rfl) (by kernel_rfl) (fun _ _ _ _ h => h) rfl rfl ?_
              refine m_tk 38 false rfl rfl (by kernel_rfl) (v_pick_f rfl rfl) rfl rfl ?_
              refine m_tk 39 false rfl rfl (by kernel_rfl) (v_move rfl) rfl rfl ?_
              refine m_take_no (j := 39) (t := 167) 40 rfl rfl rfl rfl rfl rfl (by kernel_rfl) (by kernel_rfl) (by kernel_rfl) (fun _ _ _ _ h => h) rfl rfl ?_
              refine m_take_no (j := 39) (t := 167) 41 rfl rfl rfl rfl rfl rfl (by kernel_rfl) (by kernel_rfl) (by kernel_rfl) (fun _ _ _ _ h => h) rfl rfl ?_
              refine m_take_no (j := 39) (t := 167) 42 rfl rfl rfl rfl rfl rfl (by kernel_rfl) (by kernel_rfl) (by kernel_rfl) (fun _ _ _ _ h => h) rfl rfl ?_
              refine m_take_no (j := 39) (t := 167) 43 rfl rfl rfl rfl rfl rfl (by kernel_rfl) (by kernel_rfl) (by kernel_rfl) (fun _ _ _ _ h => h) rfl rfl ?_
              refine m_take_no (j := 39) (t := 167) 44 rfl rfl rfl rfl rfl rfl (by kernel_rfl) (by kernel_rfl) (by kernel_rfl) (fun _ _ _ _ h => h) rfl rfl ?_
              refine m_take_no (j := 39) (t := 167) 45 rfl rfl rfl rfl rfl rfl (by kernel_rfl) (by kernel_rfl) (by kernel_rfl) (fun _ _ _ _ h => h) rfl rfl ?_
              refine m_take_no (j := 39) (t := 167) 46 rfl rfl rfl rfl rfl rfl (by kernel_rfl) (by kernel_rfl) (by kernel_rfl) (fun _ _ _ _ h => h) rfl rfl ?_
              refine m_take_no (j := 39) (t := 167) 47 rfl rfl rfl rfl rfl rfl (by kernel_rfl) (by kernel_rfl) (by kernel_rfl) (fun _ _ _ _ h => h) rfl rfl ?_
              refine m_take_no (j := 39) (t := 167) 48 rfl rfl rfl rfl rfl rfl (by kernel_rfl) (by kernel_rfl) (by kernel_rfl) (fun _ _ _ _ h => h) rfl rfl ?_
              refine m_take_no (j := 39) (t := 167) 49 rfl rfl rfl rfl rfl rfl (by kernel_rfl) (by kernel_rfl) (by kernel_rfl) (fun _ _ _ _ h => h) rfl rfl ?_
              refine m_take_no (j := 39) (t := 167) 50 rfl rfl rfl rfl rfl rfl (by kernel_rfl) (by kernel_rfl) (by kernel_rfl) (fun _ _ _ _ h => h) rfl rfl ?_
              refine m_take_no (j := 39) (t := 167) 51 rfl rfl rfl rfl rfl rfl (by kernel_rfl) (by kernel_rfl) (by kernel_rfl) (fun _ _ _ _ h => h) rfl rfl ?_
              refine m_take_no (j := 39) (t := 167) 52 rfl rfl rfl rfl rfl rfl (by kernel_rfl) (by kernel_rfl) (by kernel_rfl) (fun _ _ _ _ h => h) rfl rfl ?_
              refine m_tk 53 false rfl rfl (by kernel_rfl) (v_pick_f rfl rfl) rfl rfl ?_
              refine m_done (by kernel_rfl) ?_
              refine g_next hK37 ?_
              first | refine g_keep [2, 7, 9, 10, 15, 18, 19, 20, 181] [] [] (keep_cons rfl (keep_cons rfl (keep_cons rfl (keep_cons rfl (keep_cons rfl (keep_cons rfl (keep_cons rfl (keep_cons rfl (keep_cons rfl keep_nil))))))))) lkeep_nil keep_nil rfl ?_ | refine g_keep [2, 7, 9, 10, 15, 18, 19, 20, 181] [] [] rfl rfl rfl rfl ?_
              refine g_cond rfl (fun h => by cases h) (fun _ => ?_)
              refine g_skip ?_
              refine g_block_normal ?_
              refine g_next hK36 ?_
              refine g_region ?_
              refine g_step rfl (s_val (v_move rfl) rfl rfl ?_)
              refine g_step rfl (s_val (v_add rfl rfl (by omega)) rfl rfl ?_)
              refine g_step rfl (s_val (v_assign rfl) rfl rfl ?_)
              refine g_nil ?_
              first | refine g_keep [2, 7, 9, 10, 15, 18, 19, 20] [] [] (keep_cons rfl (keep_cons rfl (keep_cons rfl (keep_cons rfl (keep_cons rfl (keep_cons rfl (keep_cons rfl (keep_cons rfl keep_nil)))))))) lkeep_nil keep_nil rfl ?_ | refine g_keep [2, 7, 9, 10, 15, 18, 19, 20] [] [] rfl rfl rfl rfl ?_
              first | exact g_round _ (by omega) ⟨q + 1, true, by omega, rfl, rfl, rfl, rfl, ⟨by rw [any_snoc hz, show hadB y z = true from by simp_all [hadB]]; simp, hS3, hsH3⟩⟩ | exact g_round _ (by omega) ⟨q + 1, fl, by omega, rfl, rfl, rfl, rfl, ⟨by rw [any_snoc hz, ← hfl, show hadB y z = false from by simp_all [hadB]]; simp, hS3, hsH3⟩⟩
            ·
             try simp only [NM] at hc125
             obtain rfl : q = had2.length := by omega
             rw [List.take_length, hany] at hfl
             refine g_exit ?_
             refine g_then_exit ?_
             refine g_then_exit ?_
             refine g_block_same ?_
             refine g_next hK32 ?_
             refine g_seq (fun K38 hK38 => ?_)
             refine g_region ?_
             refine g_step rfl (s_val (v_move rfl) rfl rfl ?_)
             refine g_step rfl (s_val (v_not rfl) rfl rfl ?_)
             refine g_nil ?_
             refine g_next hK38 ?_
             refine g_cond rfl (fun hc183 => ?_) (fun hc183 => ?_)
             · exfalso; (try simp only [NM] at hc183); simp_all
             ·
              try simp only [NM] at hc183
              refine g_skip ?_
              refine g_block_normal ?_
              refine g_next hK30 ?_
              refine g_region ?_
              refine g_step rfl (s_val (v_move rfl) rfl rfl ?_)
              refine g_step rfl (s_val (v_add rfl rfl (by omega)) rfl rfl ?_)
              refine g_step rfl (s_val (v_assign rfl) rfl rfl ?_)
              refine g_nil ?_
              first | refine g_keep [2, 7, 9, 10, 15, 18] [] [] (keep_cons rfl (keep_cons rfl (keep_cons rfl (keep_cons rfl (keep_cons rfl (keep_cons rfl keep_nil)))))) lkeep_nil keep_nil rfl ?_ | refine g_keep [2, 7, 9, 10, 15, 18] [] [] rfl rfl rfl rfl ?_
              exact g_round _ (by omega) ⟨j + 1, by omega, rfl, rfl, rfl, rfl, ⟨hS3, hsH3⟩⟩
           ·
            try simp only [NM] at hc119
            obtain rfl : j = (viewW s2 x.node).length := by omega
            refine g_exit ?_
            refine g_then_exit ?_
            refine g_then_exit ?_
            refine g_block_same ?_
            refine g_block_normal ?_
            refine g_next hK16 ?_
            refine g_region ?_
            refine g_step rfl (s_val (v_move rfl) rfl rfl ?_)
            refine g_step rfl (s_val (v_add rfl rfl (by omega)) rfl rfl ?_)
            refine g_step rfl (s_val (v_assign rfl) rfl rfl ?_)
            refine g_nil ?_
            first | refine g_keep [2, 7, 9, 10] [] [] (keep_cons rfl (keep_cons rfl (keep_cons rfl (keep_cons rfl keep_nil)))) lkeep_nil keep_nil rfl ?_ | refine g_keep [2, 7, 9, 10] [] [] rfl rfl rfl rfl ?_
            exact g_round _ (by omega) ⟨k + 1, s2, had2, h2, h4, ad2, by omega, rfl, rfl, rfl, rfl, ⟨hS3, hsH3, hI2, hok2, hGI2, hD2, by omega⟩⟩
        ·
         try simp only [NM] at hc56
         obtain rfl : k = l.length := by omega
         refine g_exit ?_
         refine g_then_exit ?_
         refine g_then_exit ?_
         refine g_block_same ?_
         refine g_next hK12 ?_
         refine g_seq (fun K39 hK39 => ?_)
         refine g_region ?_
         refine g_step rfl (s_callp rfl rfl rfl (awake34_ok _) ?_)
         rintro _ rfl
         refine g_step rfl (s_val (v_assign rfl) rfl rfl ?_)
         refine g_nil ?_
         refine g_next hK39 ?_
         refine g_ret ?_
         refine g_end1 (.inl rfl) Try.results10 (.tmp rfl) [] (ASub.refl _) (by first | exact AHeap.sub_refl _ | exact hsH) (fun p hp => by cases hp) ⟨rfl, ?_⟩
         rfl

end Go.Proofs.Ytgipbhfblmblcaa

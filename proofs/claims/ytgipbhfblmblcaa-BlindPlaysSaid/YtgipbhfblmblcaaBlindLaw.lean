import Derived.Test.YtgipbhfblmblcaaBlind4
import Derived.Test.YtgipbhfblmblcaaPBlind6
import Derived.Test.YtgipbhfblmblcaaUnder
set_option maxHeartbeats 8000000
set_option linter.unusedSimpArgs false
set_option linter.unusedVariables false
set_option maxRecDepth 100000
namespace Go.Proofs.Ytgipbhfblmblcaa
open Go Go.Proofs.Ytgipbhfblmblcaa.AM
theorem vw_ok (h : AHeap) (w : Nat) (room : Int) (s : Wd) (i : Int) (G : AHeap) (hI : WIs lmRow h w room s) (hG : h.sub G) (hok : WOk room s) : PCalls Try.prog 46 [.box w 0, .int .i64 i] G (fun v => v = encRs (viewW s i)) := wview_ok h w room s i G hI hG hok
theorem up_ok (h : AHeap) (w : Nat) (room : Int) (s : Wd) (i : Int) (G : AHeap) (hI : WIs lmRow h w room s) (hG : h.sub G) (hok : WOk room s) : PCalls Try.prog 44 [.box w 0, .int .i64 i] G (fun v => v = .bool (upW s i)) := wup_ok h w room s i G hI hG hok
theorem few34_ok (l : List Mv) (hh : ∀ x ∈ l, ∀ r ∈ x.recs, Held r.bag) (hh2 : ∀ x ∈ l, x.recs.length ≤ 140737488351232) (hl : l.length ≤ 140737488351232) (G : AHeap) : PCalls Try.prog 39 [.imm (l.map encMv)] G (fun v => v = .bool (fewMv l)) := by
 refine LCalls.intro 20 fi39 rfl Try.ntmps39 rfl (fun _ h => h.elim) (fun H hH w0 hw0 => ?_)
 refine g_seq (fun K0 hK0 => ?_)
 refine g_region ?_
 refine g_step rfl (s_val (v_assign rfl) rfl rfl ?_)
 refine g_nil ?_
 refine g_next hK0 ?_
 refine g_seq (fun K1 hK1 => ?_)
 refine g_seq (fun K2 hK2 => ?_)
 refine g_region ?_
 refine g_step rfl (s_val (v_move rfl) rfl rfl ?_)
 refine g_step rfl (s_val (v_len ty76 rfl (by first | rfl | assumption) (by first | exact List.length_map .. | rfl)) rfl rfl ?_)
 refine g_step rfl (s_val (v_gtr rfl rfl) rfl rfl ?_)
 refine g_nil ?_
 refine g_next hK2 ?_
 refine g_cond rfl (fun hc6 => ?_) (fun hc6 => ?_)
 ·
  try simp only [NM] at hc6
  refine g_seq (fun K3 hK3 => ?_)
  refine g_region ?_
  refine g_step rfl (s_val (v_assign rfl) rfl rfl ?_)
  refine g_nil ?_
  refine g_next hK3 ?_
  refine g_ret ?_
  refine g_then_ret ?_
  refine g_end1 (.inl rfl) Try.results39 (.tmp rfl) [] (ASub.refl _) (AHeap.sub_refl _) (fun p hp => by cases hp) ⟨rfl, ?_⟩
  first | (rw [fewMv, decide_eq_false (by omega)]; rfl; done) | (rw [fewMv, decide_eq_false (by omega)]; rfl; rfl)
 ·
  try simp only [NM] at hc6
  refine g_skip ?_
  refine g_next hK1 ?_
  refine g_seq (fun K4 hK4 => ?_)
  refine g_seq (fun K5 hK5 => ?_)
  refine g_region ?_
  refine g_step rfl (s_val (v_assign rfl) rfl rfl ?_)
  refine g_nil ?_
  refine g_next hK5 ?_
  refine g_block ?_
  first | refine g_keep [0, 3] [] [] (keep_cons rfl (keep_cons rfl keep_nil)) lkeep_nil keep_nil rfl ?_ | refine g_keep [0, 3] [] [] rfl rfl rfl rfl ?_
  refine g_loop (fun n env L B G => ∃ (k : Nat) , k ≤ l.length ∧ n = l.length - k ∧ env = [(0, .imm (l.map encMv)), (3, .int .i64 (k : Int))] ∧ L = [] ∧ B = [] ∧ H = G ∧ (l.take k).all (fun x => fewL x.recs) = true) (l.length) ⟨0, Nat.zero_le _, rfl, rfl, rfl, rfl, rfl, rfl⟩ (fun n env L B G hI => ?_)
  obtain ⟨k, hk, rfl, rfl, rfl, rfl, rfl, hc⟩ := hI
  refine g_seq (fun K6 hK6 => ?_)
  refine g_seq (fun K7 hK7 => ?_)
  refine g_region ?_
  refine g_step rfl (s_val (v_move rfl) rfl rfl ?_)
  refine g_step rfl (s_val (v_move rfl) rfl rfl ?_)
  refine g_step rfl (s_val (v_len ty76 rfl (by first | rfl | assumption) (by first | exact List.length_map .. | rfl)) rfl rfl ?_)
  refine g_step rfl (s_val (v_lss rfl rfl) rfl rfl ?_)
  refine g_nil ?_
  refine g_next hK7 ?_
  refine g_cond rfl (fun hc10 => ?_) (fun hc10 => ?_)
  ·
   try simp only [NM] at hc10
   obtain ⟨x, hx⟩ := get_some (l := l) (k := k) (by omega)
   refine g_skip ?_
   refine g_next hK6 ?_
   refine g_seq (fun K8 hK8 => ?_)
   refine g_block ?_
   refine g_seq (fun K9 hK9 => ?_)
   refine g_region ?_
   refine g_step rfl (s_val (v_move rfl) rfl rfl ?_)
   refine g_step rfl (s_val (v_move rfl) rfl rfl ?_)
   refine g_step rfl (s_val (v_indexAddr ty76 ty87 rfl rfl (by first | rfl | assumption) (by first | rfl | exact (rfl : (0 : Int) = ((0 : Nat) : Int)) | exact (Int.toNat_of_nonneg (by omega)).symm) (map_get hx) rfl) rfl rfl ?_)
   refine g_step rfl (s_val (by first | exact v_fieldAddr ty87 fo87_5 ty22 rfl | exact v_fieldAddr_box ty87 fo87_5 ty22 rfl) rfl rfl ?_)
   refine g_step rfl (s_val (by first | exact v_load ty22 rfl rfl (by first | rfl | assumption) (map_get hx) rfl | exact v_load_box ty22 rfl rfl (by assumption) rfl) rfl rfl ?_)
   refine g_step rfl (s_callp rfl rfl rfl (fewL_ok x.recs _ _ rfl (hh x (mem_get hx)) (hh2 x (mem_get hx))) ?_)
   rintro _ rfl
   refine g_step rfl (s_val (v_not rfl) rfl rfl ?_)
   refine g_nil ?_
   refine g_next hK9 ?_
   refine g_cond rfl (fun hc19 => ?_) (fun hc19 => ?_)
   ·
    try simp only [NM] at hc19
    refine g_seq (fun K10 hK10 => ?_)
    refine g_region ?_
    refine g_step rfl (s_val (v_assign rfl) rfl rfl ?_)
    refine g_nil ?_
    refine g_next hK10 ?_
    refine g_ret ?_
    refine g_block_ret ?_
    refine g_then_ret ?_
    refine g_then_ret ?_
    refine g_block_ret ?_
    refine g_then_ret ?_
    refine g_end1 (.inl rfl) Try.results39 (.tmp rfl) [] (ASub.refl _) (AHeap.sub_refl _) (fun p hp => by cases hp) ⟨rfl, ?_⟩
    first | (rw [fewMv, all_stop hx (by simpa using hc19), Bool.and_false]; done) | (rw [fewMv, all_stop hx (by simpa using hc19), Bool.and_false]; rfl)
   ·
    try simp only [NM] at hc19
    refine g_skip ?_
    refine g_block_normal ?_
    refine g_next hK8 ?_
    refine g_region ?_
    refine g_step rfl (s_val (v_move rfl) rfl rfl ?_)
    refine g_step rfl (s_val (v_add rfl rfl (by omega)) rfl rfl ?_)
    refine g_step rfl (s_val (v_assign rfl) rfl rfl ?_)
    refine g_nil ?_
    first | refine g_keep [0, 3] [] [] (keep_cons rfl (keep_cons rfl keep_nil)) lkeep_nil keep_nil rfl ?_ | refine g_keep [0, 3] [] [] rfl rfl rfl rfl ?_
    exact g_round _ (by omega) ⟨k + 1, by omega, rfl, rfl, rfl, rfl, rfl, by rw [all_snoc hx, hc, Bool.true_and]; simpa using hc19⟩
  ·
   try simp only [NM] at hc10
   obtain rfl : k = l.length := by omega
   rw [List.take_length] at hc
   refine g_exit ?_
   refine g_then_exit ?_
   refine g_then_exit ?_
   refine g_block_same ?_
   refine g_next hK4 ?_
   refine g_seq (fun K11 hK11 => ?_)
   refine g_region ?_
   refine g_step rfl (s_val (v_assign rfl) rfl rfl ?_)
   refine g_nil ?_
   refine g_next hK11 ?_
   refine g_ret ?_
   refine g_end1 (.inl rfl) Try.results39 (.tmp rfl) [] (ASub.refl _) (AHeap.sub_refl _) (fun p hp => by cases hp) ⟨rfl, ?_⟩
   first | (rw [fewMv, hc, decide_eq_true (by omega)]; rfl; done) | (rw [fewMv, hc, decide_eq_true (by omega)]; rfl; rfl)

theorem awake34_ok (G : AHeap) : PCalls Try.prog 40 [] G (fun v => v = .bool true) := by
 refine LCalls.intro 101 fi40 rfl Try.ntmps40 rfl (fun _ h => h.elim) (fun H hH w0 hw0 => ?_)
 refine g_seq (fun K0 hK0 => ?_)
 refine g_region ?_
 refine g_step rfl (s_val (v_assign rfl) rfl rfl ?_)
 refine g_nil ?_
 refine g_next hK0 ?_
 refine g_seq (fun K1 hK1 => ?_)
 refine g_region ?_
 refine g_step rfl (s_val (v_sub (b := (encSp ⟨1, 1⟩)) (v_build (vs := [(0, _), (1, _)]) (zs := [(.int .i64 0), (.int .i64 0)]) (cells := [_, _]) ty43 pl43 rfl rfl rfl) (ASub.of_wk rfl)) rfl rfl ?_)
 refine g_step rfl (s_alloc (av := (.agg [(.int .i64 0), (.int .i64 0)])) ty43 rfl rfl rfl rfl ?_)
 refine g_step rfl (s_store_all ty43 rfl rfl rfl rfl rfl rfl ?_)
 refine g_nil ?_
 refine g_next hK1 ?_
 refine g_seq (fun K2 hK2 => ?_)
 refine g_region ?_
 refine g_step rfl (s_call rfl rfl rfl (bnew_ok 2 4 _ (by decide) (by decide) (by decide) (by decide)) (fun _ h => h.elim) ?_)
 rintro n0 _ effs0 hn0 hdom0 ⟨d, h1, rfl, hE0, hI⟩ hok0
 have hS := (show Sep w0.heap.size H ([] ++ noH :: [noH]) from Sep.zero _ _ 2).fresh hE0 hn0 hdom0
 have hsH := hE0.frame hdom0 (AHeap.sub_refl H) (fun b hb => absurd rfl hb)
 generalize setAll H effs0 = G0 at hS hsH ⊢
 have hok := awS0_ok
 refine g_step rfl (s_val (v_move rfl) rfl rfl ?_)
 refine g_step rfl (s_val (v_extract rfl rfl) rfl rfl ?_)
 refine g_step rfl (s_val (v_extract rfl rfl) rfl rfl ?_)
 refine g_step rfl (s_val (v_assign rfl) rfl rfl ?_)
 refine g_step rfl (s_val (v_assign rfl) rfl rfl ?_)
 refine g_nil ?_
 refine g_next hK2 ?_
 refine g_seq (fun K3 hK3 => ?_)
 refine g_seq (fun K4 hK4 => ?_)
 refine g_region ?_
 refine g_step rfl (s_val (v_move rfl) rfl rfl ?_)
 refine g_step rfl (s_val (v_neq rfl rfl) rfl rfl ?_)
 refine g_step rfl (s_val (v_move rfl) rfl rfl ?_)
 refine g_split 19 rfl (fun hg19 => ?_) (fun hg19 => ?_)
 · exfalso; (try simp only [NM] at hg19); simp at hg19
 ·
  try simp only [NM] at hg19
  refine g_step_yes (j := 2) (t := 19) rfl rfl rfl rfl (s_val (v_move rfl) rfl rfl ?_)
  refine g_step_yes (j := 2) (t := 19) rfl rfl rfl rfl (s_val (by first | exact v_ptr_eql_nil ty78 rfl rfl rfl | exact v_nil_eql_nil ty78 rfl rfl | exact v_ptrO_eql ty78 rfl rfl) rfl rfl ?_)
  refine g_step rfl (s_val (v_pick_f rfl rfl) rfl rfl ?_)
  refine g_nil ?_
  refine g_next hK4 ?_
  refine g_cond rfl (fun hc22 => ?_) (fun hc22 => ?_)
  · exfalso; (try simp only [NM] at hc22); simp at hc22
  ·
   try simp only [NM] at hc22
   refine g_skip ?_
   refine g_next hK3 ?_
   refine g_seq (fun K5 hK5 => ?_)
   refine g_region ?_
   refine g_step rfl (s_val (v_move rfl) rfl rfl ?_)
   refine g_step rfl (s_val (by first | exact v_loadl_all ty43 rfl rfl rfl rfl rfl | exact v_loadl_part (cs := [_, _]) ty43 rfl rfl rfl rfl rfl rfl) rfl rfl ?_)
   refine g_step rfl (s_val (v_sub (b := (encR (awR 0 0 0))) (v_build (vs := [(0, _), (3, _)]) (zs := [(.int .i64 0), (.int .i64 0), (.int .i64 0), (.int .i64 0), (.int .i64 0), (.bool false), .nil0]) (cells := [_, _, _, _, _, _, _]) ty46 pl46 rfl rfl rfl) (ASub.of_wk rfl)) rfl rfl ?_)
   refine g_step rfl (s_lit ty22 ty46 rfl rfl rfl rfl rfl rfl rfl ?_)
   refine g_step rfl (s_val (v_sub (b := (encMv awM1)) (v_build (vs := [(0, _), (1, _), (5, _)]) (zs := [(.int .i64 0), (.int .i64 0), (.int .i64 0), (.int .i64 0), (.int .i64 0), .nil0]) (cells := [_, _, _, _, _, _]) ty87 pl87 rfl rfl rfl) (ASub.of_wk rfl)) rfl rfl ?_)
   refine g_step rfl (s_call rfl rfl rfl (wDo_ok h1 d 4 awS0 awM1 _ hI (hS.1 h1 (by simp)).1 hok (by decide) (by simp [awM1, awR, Small, bsize]) (by decide) (by decide)) (fun b hb => .inr ((hS.1 h1 (by simp)).2 b hb)) ?_)
   rintro n1 _ effs1 hn1 hdom1 ⟨rfl, h2, hE, hI2⟩ hok1
   have hsH2 := hE.frame hdom1 hsH (fun b hb => hw0 b ((hS.1 h1 (by simp)).2 b hb))
   have hS2 := hS.turn (l1 := []) hE hn1 hdom1
   have hok2 := DoW_ok (x := awM1) hok (by decide) (by decide) (by decide)
   rw [awD1] at hI2 hok2
   rw [awD1]
   generalize setAll _ effs1 = G1 at hS2 hsH2 ⊢
   clear hI hok hS hsH
   have hI := hI2
   have hok := hok2
   have hS := hS2
   have hsH := hsH2
   clear hI2 hok2 hS2 hsH2
   refine g_step rfl (s_val (v_assign rfl) rfl rfl ?_)
   refine g_nil ?_
   refine g_next hK5 ?_
   refine g_seq (fun K6 hK6 => ?_)
   refine g_region ?_
   refine g_step rfl (s_val (v_move rfl) rfl rfl ?_)
   refine g_step rfl (s_val (by first | exact v_loadl_all ty43 rfl rfl rfl rfl rfl | exact v_loadl_part (cs := [_, _]) ty43 rfl rfl rfl rfl rfl rfl) rfl rfl ?_)
   refine g_step rfl (s_val (v_sub (b := (encR (awR 1 0 0))) (v_build (vs := [(0, _), (3, _)]) (zs := [(.int .i64 0), (.int .i64 0), (.int .i64 0), (.int .i64 0), (.int .i64 0), (.bool false), .nil0]) (cells := [_, _, _, _, _, _, _]) ty46 pl46 rfl rfl rfl) (ASub.of_wk rfl)) rfl rfl ?_)
   refine g_step rfl (s_lit ty22 ty46 rfl rfl rfl rfl rfl rfl rfl ?_)
   refine g_step rfl (s_val (v_sub (b := (encMv awM2)) (v_build (vs := [(0, _), (1, _), (5, _)]) (zs := [(.int .i64 0), (.int .i64 0), (.int .i64 0), (.int .i64 0), (.int .i64 0), .nil0]) (cells := [_, _, _, _, _, _]) ty87 pl87 rfl rfl rfl) (ASub.of_wk rfl)) rfl rfl ?_)
   refine g_step rfl (s_call rfl rfl rfl (wDo_ok h2 d 4 awS1 awM2 _ hI (hS.1 h2 (by simp)).1 hok (by decide) (by simp [awM2, awR, Small, bsize]) (by decide) (by decide)) (fun b hb => .inr ((hS.1 h2 (by simp)).2 b hb)) ?_)
   rintro n2 _ effs2 hn2 hdom2 ⟨rfl, h3, hE, hI2⟩ hok2
   have hsH2 := hE.frame hdom2 hsH (fun b hb => hw0 b ((hS.1 h2 (by simp)).2 b hb))
   have hS2 := hS.turn (l1 := []) hE hn2 hdom2
   have hok2 := DoW_ok (x := awM2) hok (by decide) (by decide) (by decide)
   rw [awD2] at hI2 hok2
   rw [awD2]
   generalize setAll _ effs2 = G2 at hS2 hsH2 ⊢
   clear hI hok hS hsH
   have hI := hI2
   have hok := hok2
   have hS := hS2
   have hsH := hsH2
   clear hI2 hok2 hS2 hsH2
   refine g_step rfl (s_val (v_assign rfl) rfl rfl ?_)
   refine g_nil ?_
   refine g_next hK6 ?_
   first | refine g_keep [2, 4, 5] [] [] (keep_cons rfl (keep_cons rfl (keep_cons rfl keep_nil))) lkeep_nil keep_nil rfl ?_ | refine g_keep [2, 4, 5] [] [] rfl rfl rfl rfl ?_
   refine g_seq (fun K7 hK7 => ?_)
   refine g_region ?_
   refine g_step rfl (s_val (v_move rfl) rfl rfl ?_)
   refine g_step rfl (s_val (v_move rfl) rfl rfl ?_)
   refine g_step rfl (s_callp rfl rfl rfl (vw_ok h3 d 4 awS2 0 _ hI (hS.1 h3 (by simp)).1 hok) ?_)
   rintro _ rfl
   rw [show viewW awS2 0 = [awR 0 0 0] from rfl]
   refine g_step rfl (s_val (v_sub (b := (encMv awM3)) (v_build (vs := [(0, _), (1, _), (4, _), (5, _)]) (zs := [(.int .i64 0), (.int .i64 0), (.int .i64 0), (.int .i64 0), (.int .i64 0), .nil0]) (cells := [_, _, _, _, _, _]) ty87 pl87 rfl rfl rfl) (ASub.of_wk rfl)) rfl rfl ?_)
   refine g_step rfl (s_call rfl rfl rfl (wDo_ok h3 d 4 awS2 awM3 _ hI (hS.1 h3 (by simp)).1 hok (by decide) (by simp [awM3, awR, Small, bsize]) (by decide) (by decide)) (fun b hb => .inr ((hS.1 h3 (by simp)).2 b hb)) ?_)
   rintro n3 _ effs3 hn3 hdom3 ⟨rfl, h4, hE, hI2⟩ hok3
   have hsH2 := hE.frame hdom3 hsH (fun b hb => hw0 b ((hS.1 h3 (by simp)).2 b hb))
   have hS2 := hS.turn (l1 := []) hE hn3 hdom3
   have hok2 := DoW_ok (x := awM3) hok (by decide) (by decide) (by decide)
   rw [awD3] at hI2 hok2
   rw [awD3]
   generalize setAll _ effs3 = G3 at hS2 hsH2 ⊢
   clear hI hok hS hsH
   have hI := hI2
   have hok := hok2
   have hS := hS2
   have hsH := hsH2
   clear hI2 hok2 hS2 hsH2
   refine g_step rfl (s_val (v_assign rfl) rfl rfl ?_)
   refine g_nil ?_
   refine g_next hK7 ?_
   refine g_seq (fun K8 hK8 => ?_)
   refine g_region ?_
   refine g_step rfl (s_val (v_move rfl) rfl rfl ?_)
   refine g_step rfl (s_val (v_sub (b := (encMv awM4)) (v_build (vs := [(0, _), (1, _), (4, _)]) (zs := [(.int .i64 0), (.int .i64 0), (.int .i64 0), (.int .i64 0), (.int .i64 0), .nil0]) (cells := [_, _, _, _, _, _]) ty87 pl87 rfl rfl rfl) (ASub.of_wk rfl)) rfl rfl ?_)
   refine g_step rfl (s_call rfl rfl rfl (wDo_ok h4 d 4 awS3 awM4 _ hI (hS.1 h4 (by simp)).1 hok (by decide) (by simp [awM4, awR, Small, bsize]) (by decide) (by decide)) (fun b hb => .inr ((hS.1 h4 (by simp)).2 b hb)) ?_)
   rintro n4 _ effs4 hn4 hdom4 ⟨rfl, h5, hE, hI2⟩ hok4
   have hsH2 := hE.frame hdom4 hsH (fun b hb => hw0 b ((hS.1 h4 (by simp)).2 b hb))
   have hS2 := hS.turn (l1 := []) hE hn4 hdom4
   have hok2 := DoW_ok (x := awM4) hok (by decide) (by decide) (by decide)
   rw [awD4] at hI2 hok2
   rw [awD4]
   generalize setAll _ effs4 = G4 at hS2 hsH2 ⊢
   clear hI hok hS hsH
   have hI := hI2
   have hok := hok2
   have hS := hS2
   have hsH := hsH2
   clear hI2 hok2 hS2 hsH2
   refine g_step rfl (s_val (v_assign rfl) rfl rfl ?_)
   refine g_nil ?_
   refine g_next hK8 ?_
   refine g_seq (fun K9 hK9 => ?_)
   refine g_region ?_
   refine g_step rfl (s_val (v_move rfl) rfl rfl ?_)
   refine g_step rfl (s_val (v_sub (b := (encMv awM5)) (v_build (vs := [(0, _), (1, _), (2, _)]) (zs := [(.int .i64 0), (.int .i64 0), (.int .i64 0), (.int .i64 0), (.int .i64 0), .nil0]) (cells := [_, _, _, _, _, _]) ty87 pl87 rfl rfl rfl) (ASub.of_wk rfl)) rfl rfl ?_)
   refine g_step rfl (s_call rfl rfl rfl (wDo_ok h5 d 4 awS4 awM5 _ hI (hS.1 h5 (by simp)).1 hok (by decide) (by simp [awM5, awR, Small, bsize]) (by decide) (by decide)) (fun b hb => .inr ((hS.1 h5 (by simp)).2 b hb)) ?_)
   rintro n5 _ effs5 hn5 hdom5 ⟨rfl, h6, hE, hI2⟩ hok5
   have hsH2 := hE.frame hdom5 hsH (fun b hb => hw0 b ((hS.1 h5 (by simp)).2 b hb))
   have hS2 := hS.turn (l1 := []) hE hn5 hdom5
   have hok2 := DoW_ok (x := awM5) hok (by decide) (by decide) (by decide)
   rw [awD5] at hI2 hok2
   rw [awD5]
   generalize setAll _ effs5 = G5 at hS2 hsH2 ⊢
   clear hI hok hS hsH
   have hI := hI2
   have hok := hok2
   have hS := hS2
   have hsH := hsH2
   clear hI2 hok2 hS2 hsH2
   refine g_step rfl (s_val (v_assign rfl) rfl rfl ?_)
   refine g_nil ?_
   refine g_next hK9 ?_
   refine g_seq (fun K10 hK10 => ?_)
   refine g_region ?_
   refine g_step rfl (s_val (v_move rfl) rfl rfl ?_)
   refine g_step rfl (s_val (v_move rfl) rfl rfl ?_)
   refine g_step rfl (s_callp rfl rfl rfl (vw_ok h6 d 4 awS5 1 _ hI (hS.1 h6 (by simp)).1 hok) ?_)
   rintro _ rfl
   rw [show viewW awS5 1 = [awR 0 0 1, awR 1 0 0] from rfl]
   refine g_step rfl (s_val (v_sub (b := (encMv awM6)) (v_build (vs := [(0, _), (1, _), (4, _), (5, _)]) (zs := [(.int .i64 0), (.int .i64 0), (.int .i64 0), (.int .i64 0), (.int .i64 0), .nil0]) (cells := [_, _, _, _, _, _]) ty87 pl87 rfl rfl rfl) (ASub.of_wk rfl)) rfl rfl ?_)
   refine g_step rfl (s_call rfl rfl rfl (wDo_ok h6 d 4 awS5 awM6 _ hI (hS.1 h6 (by simp)).1 hok (by decide) (by simp [awM6, awR, Small, bsize]) (by decide) (by decide)) (fun b hb => .inr ((hS.1 h6 (by simp)).2 b hb)) ?_)
   rintro n6 _ effs6 hn6 hdom6 ⟨rfl, h7, hE, hI2⟩ hok6
   have hsH2 := hE.frame hdom6 hsH (fun b hb => hw0 b ((hS.1 h6 (by simp)).2 b hb))
   have hS2 := hS.turn (l1 := []) hE hn6 hdom6
   have hok2 := DoW_ok (x := awM6) hok (by decide) (by decide) (by decide)
   rw [awD6] at hI2 hok2
   rw [awD6]
   generalize setAll _ effs6 = G6 at hS2 hsH2 ⊢
   clear hI hok hS hsH
   have hI := hI2
   have hok := hok2
   have hS := hS2
   have hsH := hsH2
   clear hI2 hok2 hS2 hsH2
   refine g_step rfl (s_val (v_assign rfl) rfl rfl ?_)
   refine g_nil ?_
   refine g_next hK10 ?_
   refine g_seq (fun K11 hK11 => ?_)
   refine g_region ?_
   refine g_step rfl (s_val (v_move rfl) rfl rfl ?_)
   refine g_step rfl (s_val (v_sub (b := (encMv awM7)) (v_build (vs := [(0, _), (1, _), (4, _)]) (zs := [(.int .i64 0), (.int .i64 0), (.int .i64 0), (.int .i64 0), (.int .i64 0), .nil0]) (cells := [_, _, _, _, _, _]) ty87 pl87 rfl rfl rfl) (ASub.of_wk rfl)) rfl rfl ?_)
   refine g_step rfl (s_call rfl rfl rfl (wDo_ok h7 d 4 awS6 awM7 _ hI (hS.1 h7 (by simp)).1 hok (by decide) (by simp [awM7, awR, Small, bsize]) (by decide) (by decide)) (fun b hb => .inr ((hS.1 h7 (by simp)).2 b hb)) ?_)
   rintro n7 _ effs7 hn7 hdom7 ⟨rfl, h8, hE, hI2⟩ hok7
   have hsH2 := hE.frame hdom7 hsH (fun b hb => hw0 b ((hS.1 h7 (by simp)).2 b hb))
   have hS2 := hS.turn (l1 := []) hE hn7 hdom7
   have hok2 := DoW_ok (x := awM7) hok (by decide) (by decide) (by decide)
   rw [awD7] at hI2 hok2
   rw [awD7]
   generalize setAll _ effs7 = G7 at hS2 hsH2 ⊢
   clear hI hok hS hsH
   have hI := hI2
   have hok := hok2
   have hS := hS2
   have hsH := hsH2
   clear hI2 hok2 hS2 hsH2
   refine g_step rfl (s_val (v_assign rfl) rfl rfl ?_)
   refine g_nil ?_
   refine g_next hK11 ?_
   first | refine g_keep [2, 4, 5, 6, 7, 8, 9, 10] [] [] (keep_cons rfl (keep_cons rfl (keep_cons rfl (keep_cons rfl (keep_cons rfl (keep_cons rfl (keep_cons rfl (keep_cons rfl keep_nil)))))))) lkeep_nil keep_nil rfl ?_ | refine g_keep [2, 4, 5, 6, 7, 8, 9, 10] [] [] rfl rfl rfl rfl ?_
   refine g_seq (fun K12 hK12 => ?_)
   refine g_region ?_
   refine g_step rfl (s_val (v_move rfl) rfl rfl ?_)
   refine g_step rfl (s_callp rfl rfl rfl (vw_ok h8 d 4 awS7 0 _ hI (hS.1 h8 (by simp)).1 hok) ?_)
   rintro _ rfl
   rw [show viewW awS7 0 = [awR 0 1 0, awR 1 0 0] from rfl]
   refine g_step rfl (s_val (v_assign rfl) rfl rfl ?_)
   refine g_nil ?_
   refine g_next hK12 ?_
   refine g_seq (fun K13 hK13 => ?_)
   refine g_region ?_
   refine g_step rfl (s_val (v_move rfl) rfl rfl ?_)
   refine g_step rfl (s_val (v_eql rfl rfl) rfl rfl ?_)
   refine g_step rfl (s_val (v_move rfl) rfl rfl ?_)
   refine g_split 58 rfl (fun hg58 => ?_) (fun hg58 => ?_)
   ·
    try simp only [NM] at hg58
    refine g_step_yes (j := 2) (t := 58) rfl rfl rfl rfl (s_val (v_move rfl) rfl rfl ?_)
    refine g_step_yes (j := 2) (t := 58) rfl rfl rfl rfl (s_val (v_eql rfl rfl) rfl rfl ?_)
    refine g_step rfl (s_val (v_pick_t rfl rfl) rfl rfl ?_)
    refine g_step rfl (s_val (v_move rfl) rfl rfl ?_)
    refine g_split 62 rfl (fun hg62 => ?_) (fun hg62 => ?_)
    ·
     try simp only [NM] at hg62
     refine g_step_yes (j := 6) (t := 62) rfl rfl rfl rfl (s_val (v_move rfl) rfl rfl ?_)
     refine g_step_yes (j := 6) (t := 62) rfl rfl rfl rfl (s_val (v_eql rfl rfl) rfl rfl ?_)
     refine g_step rfl (s_val (v_pick_t rfl rfl) rfl rfl ?_)
     refine g_step rfl (s_val (v_move rfl) rfl rfl ?_)
     refine g_split 66 rfl (fun hg66 => ?_) (fun hg66 => ?_)
     ·
      try simp only [NM] at hg66
      refine g_step_yes (j := 10) (t := 66) rfl rfl rfl rfl (s_val (v_move rfl) rfl rfl ?_)
      refine g_step_yes (j := 10) (t := 66) rfl rfl rfl rfl (s_val (v_eql rfl rfl) rfl rfl ?_)
      refine g_step rfl (s_val (v_pick_t rfl rfl) rfl rfl ?_)
      refine g_step rfl (s_val (v_move rfl) rfl rfl ?_)
      refine g_split 70 rfl (fun hg70 => ?_) (fun hg70 => ?_)
      ·
       try simp only [NM] at hg70
       refine g_step_yes (j := 14) (t := 70) rfl rfl rfl rfl (s_val (v_move rfl) rfl rfl ?_)
       refine g_step_yes (j := 14) (t := 70) rfl rfl rfl rfl (s_val (v_eql rfl rfl) rfl rfl ?_)
       refine g_step rfl (s_val (v_pick_t rfl rfl) rfl rfl ?_)
       refine g_step rfl (s_val (v_move rfl) rfl rfl ?_)
       refine g_split 74 rfl (fun hg74 => ?_) (fun hg74 => ?_)
       ·
        try simp only [NM] at hg74
        refine g_step_yes (j := 18) (t := 74) rfl rfl rfl rfl (s_val (v_move rfl) rfl rfl ?_)
        refine g_step_yes (j := 18) (t := 74) rfl rfl rfl rfl (s_val (v_eql rfl rfl) rfl rfl ?_)
        refine g_step rfl (s_val (v_pick_t rfl rfl) rfl rfl ?_)
        refine g_step rfl (s_val (v_move rfl) rfl rfl ?_)
        refine g_split 78 rfl (fun hg78 => ?_) (fun hg78 => ?_)
        ·
         try simp only [NM] at hg78
         refine g_step_yes (j := 22) (t := 78) rfl rfl rfl rfl (s_val (v_move rfl) rfl rfl ?_)
         refine g_step_yes (j := 22) (t := 78) rfl rfl rfl rfl (s_val (v_eql rfl rfl) rfl rfl ?_)
         refine g_step rfl (s_val (v_pick_t rfl rfl) rfl rfl ?_)
         refine g_step rfl (s_val (v_move rfl) rfl rfl ?_)
         refine g_split 82 rfl (fun hg82 => ?_) (fun hg82 => ?_)
         ·
          try simp only [NM] at hg82
          refine g_step_yes (j := 26) (t := 82) rfl rfl rfl rfl (s_val (v_move rfl) rfl rfl ?_)
          refine g_step_yes (j := 26) (t := 82) rfl rfl rfl rfl (s_val (v_len ty22 rfl (by first | rfl | assumption) (by first | exact List.length_map .. | rfl)) rfl rfl ?_)
          refine g_step_yes (j := 26) (t := 82) rfl rfl rfl rfl (s_val (v_eql rfl rfl) rfl rfl ?_)
          refine g_step rfl (s_val (v_pick_t rfl rfl) rfl rfl ?_)
          refine g_step rfl (s_val (v_move rfl) rfl rfl ?_)
          refine g_split 87 rfl (fun hg87 => ?_) (fun hg87 => ?_)
          ·
           try simp only [NM] at hg87
           refine g_step_yes (j := 31) (t := 87) rfl rfl rfl rfl (s_val (v_move rfl) rfl rfl ?_)
           refine g_step_yes (j := 31) (t := 87) rfl rfl rfl rfl (s_val (v_indexAddr ty22 ty46 rfl rfl rfl rfl rfl rfl) rfl rfl ?_)
           refine g_step_yes (j := 31) (t := 87) rfl rfl rfl rfl (s_val (by first | exact v_fieldAddr ty46 fo46_1 ty3 rfl | exact v_fieldAddr_box ty46 fo46_1 ty3 rfl) rfl rfl ?_)
           refine g_step_yes (j := 31) (t := 87) rfl rfl rfl rfl (s_val (by first | exact v_load ty3 rfl rfl rfl rfl rfl | exact v_load_box ty3 rfl rfl (by assumption) rfl) rfl rfl ?_)
           refine g_step_yes (j := 31) (t := 87) rfl rfl rfl rfl (s_val (v_eql rfl rfl) rfl rfl ?_)
           refine g_step rfl (s_val (v_pick_t rfl rfl) rfl rfl ?_)
           refine g_step rfl (s_val (v_move rfl) rfl rfl ?_)
           refine g_split 94 rfl (fun hg94 => ?_) (fun hg94 => ?_)
           ·
            try simp only [NM] at hg94
            refine g_step_yes (j := 38) (t := 94) rfl rfl rfl rfl (s_val (v_move rfl) rfl rfl ?_)
            refine g_step_yes (j := 38) (t := 94) rfl rfl rfl rfl (s_val (v_indexAddr ty22 ty46 rfl rfl rfl rfl rfl rfl) rfl rfl ?_)
            refine g_step_yes (j := 38) (t := 94) rfl rfl rfl rfl (s_val (by first | exact v_fieldAddr ty46 fo46_2 ty3 rfl | exact v_fieldAddr_box ty46 fo46_2 ty3 rfl) rfl rfl ?_)
            refine g_step_yes (j := 38) (t := 94) rfl rfl rfl rfl (s_val (by first | exact v_load ty3 rfl rfl rfl rfl rfl | exact v_load_box ty3 rfl rfl (by assumption) rfl) rfl rfl ?_)
            refine g_step_yes (j := 38) (t := 94) rfl rfl rfl rfl (s_val (v_eql rfl rfl) rfl rfl ?_)
            refine g_step rfl (s_val (v_pick_t rfl rfl) rfl rfl ?_)
            refine g_step rfl (s_val (v_assign rfl) rfl rfl ?_)
            refine g_nil ?_
            refine g_next hK13 ?_
            first | refine g_keep [0] [] [] (keep_cons rfl keep_nil) lkeep_nil keep_nil rfl ?_ | refine g_keep [0] [] [] rfl rfl rfl rfl ?_
            refine g_ret ?_
            refine g_end1 (.inl rfl) Try.results40 (.tmp rfl) [] (ASub.refl _) hsH (fun p hp => by cases hp) ⟨rfl, ?_⟩
            rfl
           · exfalso; (try simp only [NM] at hg94); first | exact hg94 rfl | (simp [awR] at hg94; done)
          · exfalso; (try simp only [NM] at hg87); first | exact hg87 rfl | (simp [awR] at hg87; done)
         · exfalso; (try simp only [NM] at hg82); first | exact hg82 rfl | (simp [awR] at hg82; done)
        · exfalso; (try simp only [NM] at hg78); first | exact hg78 rfl | (simp [awR] at hg78; done)
       · exfalso; (try simp only [NM] at hg74); first | exact hg74 rfl | (simp [awR] at hg74; done)
      · exfalso; (try simp only [NM] at hg70); first | exact hg70 rfl | (simp [awR] at hg70; done)
     · exfalso; (try simp only [NM] at hg66); first | exact hg66 rfl | (simp [awR] at hg66; done)
    · exfalso; (try simp only [NM] at hg62); first | exact hg62 rfl | (simp [awR] at hg62; done)
   · exfalso; (try simp only [NM] at hg58); first | exact hg58 rfl | (simp [awR] at hg58; done)

end Go.Proofs.Ytgipbhfblmblcaa

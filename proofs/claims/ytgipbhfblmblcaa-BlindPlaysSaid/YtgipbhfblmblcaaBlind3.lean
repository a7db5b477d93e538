import Derived.Test.YtgipbhfblmblcaaBlind2
set_option maxHeartbeats 8000000
set_option linter.unusedSimpArgs false
set_option linter.unusedVariables false
set_option maxRecDepth 100000
namespace Go.Proofs.Ytgipbhfblmblcaa
open Go Go.Proofs.Ytgipbhfblmblcaa.AM
theorem wdoDn_ok (h : AHeap) (w tr cr mr : Nat) (room : Int) (pt : List (Option Nat)) (rs : Nat → Nat) (ls : Nat → List Rc) (s : Wd) (x : Mv) (i : Nat) (ho : pt[i]? = some none) (hxi : x.node = (i : Int)) (h1 : 1 ≤ room) (h48 : room ≤ 48) (G : AHeap) (hA : WA (lmRow s.post) h w tr cr mr room pt rs ls s.cells) (htl : s.tl = tlOf pt ls) (hG : h.sub G) (hok : WOk room s) (hxn : x.recs.length ≤ 1000) (hxs : ∀ y ∈ x.recs, Small y.bag) : LCalls Try.prog 75 [.box w 0, encMv x] G (fun b => h b ≠ none) (fun n v effs => v = .bool (doW room s i x).2 ∧ ∃ h', EffTo h h' n effs ∧ WIs lmRow h' w room (doW room s i x).1) := by
 refine LCalls.intro 74 fi75 rfl Try.ntmps75 rfl (fun b hb => sub_some hG hb) (fun H hH w0 hw0 => ?_)
 have hhH := AHeap.sub_trans hG hH
 have hww := hhH _ _ hA.ww
 have htt := hhH _ _ hA.tt
 have hcc := hhH _ _ hA.cc
 have hmm := hhH _ _ hA.mm
 have htn : s.tl.length = pt.length := by rw [htl, tlOf_len]
 have hcn := hA.len
 have h32 := hok.n32
 have hVt : (AV.own tr 1 0 pt.length).view H = some (pt.map tptr) := AV.view_own_all htt (by simp)
 have hVc : (AV.own cr 1 0 pt.length).view H = some (s.cells.map (.int .i64)) := AV.view_own_all hcc (by rw [List.length_map, hcn])
 have hlo : lOf s i = none := lOf_of htl ho
 refine g_seq (fun K0 hK0 => ?_)
 refine g_region ?_
 refine g_step rfl (s_box rfl rfl rfl rfl ?_)
 refine g_step rfl (s_val (v_assign rfl) rfl rfl ?_)
 refine g_nil ?_
 refine g_next hK0 ?_
 refine g_seq (fun K1 hK1 => ?_)
 refine g_draw (n := 9) (fun j => !([] : List Nat).contains j) rfl rfl ?_
 refine m_tk 0 false rfl rfl (by kernel_rfl) (v_move rfl) rfl rfl ?_
 refine m_tk 1 false rfl rfl (by kernel_rfl) (v_nilCheck rfl rfl) rfl rfl ?_
 refine m_tk 2 false rfl rfl (by kernel_rfl) (by first | exact v_fieldAddr ty125 fo125_1 ty122 rfl | exact v_fieldAddr_box ty125 fo125_1 ty122 rfl) rfl rfl ?_
 refine m_tk 3 true rfl rfl (by kernel_rfl) (by first | exact v_load ty122 rfl rfl (by first | rfl | assumption) (by first | assumption | exact map_get (by assumption) | rfl) rfl | exact v_load_box ty122 rfl rfl hww (by rfl)) rfl rfl ?_
 refine m_takel 4 rfl rfl (by kernel_rfl) (by kernel_rfl) (by kernel_rfl) (fun _ _ _ _ h => h) (vl_fieldAddr ty87 fo87_1 ty3 rfl) rfl rfl ?_
 refine m_tk 5 true rfl rfl (by kernel_rfl) (v_loadl ty3 rfl rfl rfl rfl) rfl rfl ?_
 refine m_tk 6 false rfl rfl (by kernel_rfl) (v_indexAddr ty122 ty48 rfl rfl hVt hxi (map_get ho) rfl) rfl rfl ?_
 refine m_tk 7 true rfl rfl (by kernel_rfl) (by first | exact v_load ty48 rfl rfl hVt (map_get ho) rfl | exact v_load_box ty48 rfl rfl (by assumption) rfl) rfl rfl ?_
 refine m_tk 8 false rfl rfl (by kernel_rfl) (v_assign rfl) rfl rfl ?_
 refine m_done (by kernel_rfl) ?_
 refine g_next hK1 ?_
 refine g_seq (fun K2 hK2 => ?_)
 refine g_seq (fun K3 hK3 => ?_)
 refine g_region ?_
 refine g_step rfl (s_fieldAddr ty87 fo87_0 ty3 rfl rfl ?_)
 refine g_step rfl (s_val (v_loadl ty3 rfl rfl rfl rfl) rfl rfl ?_)
 refine g_nil ?_
 refine g_next hK3 ?_
 refine g_block ?_
 refine g_seq (fun K4 hK4 => ?_)
 refine g_region ?_
 refine g_step rfl (s_val (v_eql rfl rfl) rfl rfl ?_)
 refine g_step rfl (s_val (v_assign rfl) rfl rfl ?_)
 refine g_nil ?_
 refine g_next hK4 ?_
 refine g_cond rfl (fun hc16 => ?_) (fun hc16 => ?_)
 ·
  try simp only [NM] at hc16
  refine g_seq (fun K5 hK5 => ?_)
  refine g_region ?_
  refine g_step rfl (s_val (v_move rfl) rfl rfl ?_)
  refine g_step rfl (s_val (by first | exact v_loadl_all ty87 rfl rfl rfl rfl rfl | exact v_loadl_part (cs := [_, _, _, _, _, _]) ty87 rfl rfl rfl rfl rfl rfl) rfl rfl ?_)
  refine g_step rfl (s_call rfl rfl rfl (wbootDn_ok h w tr cr mr room pt rs ls s x i ho hxi h1 h48 _ hA htl hhH hok hxn hxs) (fun b hb => .inl hb) ?_)
  rintro n1 rv1 effs1 hn1 hdom1 ⟨rfl, h', hE1, hI1⟩ hok1
  refine g_step rfl (s_val (v_assign rfl) rfl rfl ?_)
  refine g_nil ?_
  refine g_next hK5 ?_
  refine g_ret ?_
  refine g_block_ret ?_
  refine g_then_ret ?_
  have hN : doW room s i x = bootW s i x := doW_1 (by omega)
  refine g_end1 (.inl rfl) Try.results75 (.tmp rfl) effs1 (ASub.refl _) (AHeap.sub_refl _) ((hE1.weaken hn1).ok hG) ⟨by rw [hN], h', hE1.weaken hn1, by rw [hN]; exact hI1⟩
 ·
  try simp only [NM] at hc16
  refine g_seq (fun K6 hK6 => ?_)
  refine g_region ?_
  refine g_step rfl (s_val (v_eql rfl rfl) rfl rfl ?_)
  refine g_step rfl (s_val (v_assign rfl) rfl rfl ?_)
  refine g_nil ?_
  refine g_next hK6 ?_
  refine g_cond rfl (fun hc21 => ?_) (fun hc21 => ?_)
  ·
   try simp only [NM] at hc21
   refine g_seq (fun K7 hK7 => ?_)
   refine g_region ?_
   refine g_step rfl (s_val (v_move rfl) rfl rfl ?_)
   refine g_step rfl (s_val (by first | exact v_loadl_all ty87 rfl rfl rfl rfl rfl | exact v_loadl_part (cs := [_, _, _, _, _, _]) ty87 rfl rfl rfl rfl rfl rfl) rfl rfl ?_)
   refine g_step rfl (s_call rfl rfl rfl (wagain_ok h w room s x _ ⟨tr, cr, mr, pt, rs, ls, hA, htl⟩ hhH hok) (fun b hb => .inl hb) ?_)
   rintro n1 rv1 effs1 hn1 hdom1 ⟨rfl, h', hE1, hI1⟩ hok1
   refine g_step rfl (s_val (v_assign rfl) rfl rfl ?_)
   refine g_nil ?_
   refine g_next hK7 ?_
   refine g_ret ?_
   refine g_block_ret ?_
   refine g_then_ret ?_
   have hN : doW room s i x = againW s x := doW_4 (by omega)
   refine g_end1 (.inl rfl) Try.results75 (.tmp rfl) effs1 (ASub.refl _) (AHeap.sub_refl _) ((hE1.weaken hn1).ok hG) ⟨by rw [hN], h', hE1.weaken hn1, by rw [hN]; exact hI1⟩
  ·
   try simp only [NM] at hc21
   refine g_skip ?_
   refine g_block_normal ?_
   refine g_next hK2 ?_
   refine g_seq (fun K8 hK8 => ?_)
   refine g_seq (fun K9 hK9 => ?_)
   refine g_region ?_
   refine g_step rfl (s_val (v_move rfl) rfl rfl ?_)
   refine g_step rfl (s_val (by first | exact v_ptr_eql_nil ty48 rfl rfl rfl | exact v_nil_eql_nil ty48 rfl rfl | exact v_ptrO_eql ty48 rfl rfl) rfl rfl ?_)
   refine g_nil ?_
   refine g_next hK9 ?_
   refine g_cond rfl (fun hc27 => ?_) (fun hc27 => ?_)
   ·
    try simp only [NM] at hc27
    refine g_seq (fun K10 hK10 => ?_)
    refine g_region ?_
    refine g_step rfl (s_val (v_assign rfl) rfl rfl ?_)
    refine g_nil ?_
    refine g_next hK10 ?_
    refine g_ret ?_
    refine g_then_ret ?_
    have hN : doW room s i x = (s, false) := doW_dn (by omega) (by omega) hlo
    refine g_end1 (.inl rfl) Try.results75 (.tmp rfl) [] (ASub.refl _) (AHeap.sub_refl _) (fun p hp => by cases hp) ⟨by rw [hN]; rfl, h, EffTo.refl _ _, by rw [hN]; exact ⟨tr, cr, mr, pt, rs, ls, hA, htl⟩⟩
   · exfalso; (try simp only [NM] at hc27); first | exact hc27 rfl | (simp at hc27; done)

theorem wdoUp_ok (h : AHeap) (w tr cr mr : Nat) (room : Int) (pt : List (Option Nat)) (rs : Nat → Nat) (ls : Nat → List Rc) (s : Wd) (x : Mv) (i p : Nat) (ho : pt[i]? = some (some p)) (hxi : x.node = (i : Int)) (h1 : 1 ≤ room) (h48 : room ≤ 48) (G : AHeap) (hA : WA (lmRow s.post) h w tr cr mr room pt rs ls s.cells) (htl : s.tl = tlOf pt ls) (hG : h.sub G) (hok : WOk room s) (hxn : x.recs.length ≤ 1000) (hxs : ∀ y ∈ x.recs, Small y.bag) : LCalls Try.prog 75 [.box w 0, encMv x] G (fun b => h b ≠ none) (fun n v effs => v = .bool (doW room s i x).2 ∧ ∃ h', EffTo h h' n effs ∧ WIs lmRow h' w room (doW room s i x).1) := by
 refine LCalls.intro 74 fi75 rfl Try.ntmps75 rfl (fun b hb => sub_some hG hb) (fun H hH w0 hw0 => ?_)
 have hhH := AHeap.sub_trans hG hH
 have hww := hhH _ _ hA.ww
 have htt := hhH _ _ hA.tt
 have hcc := hhH _ _ hA.cc
 have hmm := hhH _ _ hA.mm
 have htn : s.tl.length = pt.length := by rw [htl, tlOf_len]
 have hcn := hA.len
 have h32 := hok.n32
 have hVt : (AV.own tr 1 0 pt.length).view H = some (pt.map tptr) := AV.view_own_all htt (by simp)
 have hVc : (AV.own cr 1 0 pt.length).view H = some (s.cells.map (.int .i64)) := AV.view_own_all hcc (by rw [List.length_map, hcn])
 have hTa := hA.tb i p ho
 have hT := hTa.mono hhH
 have hM := hok.inv i (ls i) (by rw [htl, tlOf_at, ho]; rfl)
 have hl : (ls i).length ≤ 1000 := by have := hM.len; omega
 obtain ⟨o, ho1⟩ := hM.o
 obtain ⟨q, hq1, hq2, hq3⟩ := at_idx ho1
 have ho9 := recValid_ids (hM.valid ho1)
 have hlo : lOf s i = some (ls i) := lOf_of htl ho
 have hipt : i < pt.length := (List.getElem?_eq_some_iff.1 ho).1
 have hDp : h p ≠ none := by rw [hTa.tp]; simp
 have hDr : h (rs i) ≠ none := by rw [hTa.tr]; simp
 have hDt : h tr ≠ none ∨ w0.heap.size ≤ tr := .inl (by rw [hA.tt]; simp)
 refine g_seq (fun K0 hK0 => ?_)
 refine g_region ?_
 refine g_step rfl (s_box rfl rfl rfl rfl ?_)
 refine g_step rfl (s_val (v_assign rfl) rfl rfl ?_)
 refine g_nil ?_
 refine g_next hK0 ?_
 refine g_seq (fun K1 hK1 => ?_)
 refine g_draw (n := 9) (fun j => !([] : List Nat).contains j) rfl rfl ?_
 refine m_tk 0 false rfl rfl (by kernel_rfl) (v_move rfl) rfl rfl ?_
 refine m_tk 1 false rfl rfl (by kernel_rfl) (v_nilCheck rfl rfl) rfl rfl ?_
 refine m_tk 2 false rfl rfl (by kernel_rfl) (by first | exact v_fieldAddr ty125 fo125_1 ty122 rfl | exact v_fieldAddr_box ty125 fo125_1 ty122 rfl) rfl rfl ?_
 refine m_tk 3 true rfl rfl (by kernel_rfl) (by first | exact v_load ty122 rfl rfl (by first | rfl | assumption) (by first | assumption | exact map_get (by assumption) | rfl) rfl | exact v_load_box ty122 rfl rfl hww (by rfl)) rfl rfl ?_
 refine m_takel 4 rfl rfl (by kernel_rfl) (by kernel_rfl) (by kernel_rfl) (fun _ _ _ _ h => h) (vl_fieldAddr ty87 fo87_1 ty3 rfl) rfl rfl ?_
 refine m_tk 5 true rfl rfl (by kernel_rfl) (v_loadl ty3 rfl rfl rfl rfl) rfl rfl ?_
 refine m_tk 6 false rfl rfl (by kernel_rfl) (v_indexAddr ty122 ty48 rfl rfl hVt hxi (map_get ho) rfl) rfl rfl ?_
 refine m_tk 7 true rfl rfl (by kernel_rfl) (by first | exact v_load ty48 rfl rfl hVt (map_get ho) rfl | exact v_load_box ty48 rfl rfl (by assumption) rfl) rfl rfl ?_
 refine m_tk 8 false rfl rfl (by kernel_rfl) (v_assign rfl) rfl rfl ?_
 refine m_done (by kernel_rfl) ?_
 refine g_next hK1 ?_
 refine g_seq (fun K2 hK2 => ?_)
 refine g_seq (fun K3 hK3 => ?_)
 refine g_region ?_
 refine g_step rfl (s_fieldAddr ty87 fo87_0 ty3 rfl rfl ?_)
 refine g_step rfl (s_val (v_loadl ty3 rfl rfl rfl rfl) rfl rfl ?_)
 refine g_nil ?_
 refine g_next hK3 ?_
 refine g_block ?_
 refine g_seq (fun K4 hK4 => ?_)
 refine g_region ?_
 refine g_step rfl (s_val (v_eql rfl rfl) rfl rfl ?_)
 refine g_step rfl (s_val (v_assign rfl) rfl rfl ?_)
 refine g_nil ?_
 refine g_next hK4 ?_
 refine g_cond rfl (fun hc16 => ?_) (fun hc16 => ?_)
 ·
  try simp only [NM] at hc16
  refine g_seq (fun K5 hK5 => ?_)
  refine g_region ?_
  refine g_step rfl (s_val (v_move rfl) rfl rfl ?_)
  refine g_step rfl (s_val (by first | exact v_loadl_all ty87 rfl rfl rfl rfl rfl | exact v_loadl_part (cs := [_, _, _, _, _, _]) ty87 rfl rfl rfl rfl rfl rfl) rfl rfl ?_)
  refine g_step rfl (s_call rfl rfl rfl (wbootUp_ok h w tr cr mr room pt rs ls s x i p ho hxi h1 h48 _ hA htl hhH hok hxn hxs) (fun b hb => .inl hb) ?_)
  rintro n1 rv1 effs1 hn1 hdom1 ⟨rfl, h', hE1, hI1⟩ hok1
  refine g_step rfl (s_val (v_assign rfl) rfl rfl ?_)
  refine g_nil ?_
  refine g_next hK5 ?_
  refine g_ret ?_
  refine g_block_ret ?_
  refine g_then_ret ?_
  have hN : doW room s i x = bootW s i x := doW_1 (by omega)
  refine g_end1 (.inl rfl) Try.results75 (.tmp rfl) effs1 (ASub.refl _) (AHeap.sub_refl _) ((hE1.weaken hn1).ok hG) ⟨by rw [hN], h', hE1.weaken hn1, by rw [hN]; exact hI1⟩
 ·
  try simp only [NM] at hc16
  refine g_seq (fun K6 hK6 => ?_)
  refine g_region ?_
  refine g_step rfl (s_val (v_eql rfl rfl) rfl rfl ?_)
  refine g_step rfl (s_val (v_assign rfl) rfl rfl ?_)
  refine g_nil ?_
  refine g_next hK6 ?_
  refine g_cond rfl (fun hc21 => ?_) (fun hc21 => ?_)
  ·
   try simp only [NM] at hc21
   refine g_seq (fun K7 hK7 => ?_)
   refine g_region ?_
   refine g_step rfl (s_val (v_move rfl) rfl rfl ?_)
   refine g_step rfl (s_val (by first | exact v_loadl_all ty87 rfl rfl rfl rfl rfl | exact v_loadl_part (cs := [_, _, _, _, _, _]) ty87 rfl rfl rfl rfl rfl rfl) rfl rfl ?_)
   refine g_step rfl (s_call rfl rfl rfl (wagain_ok h w room s x _ ⟨tr, cr, mr, pt, rs, ls, hA, htl⟩ hhH hok) (fun b hb => .inl hb) ?_)
   rintro n1 rv1 effs1 hn1 hdom1 ⟨rfl, h', hE1, hI1⟩ hok1
   refine g_step rfl (s_val (v_assign rfl) rfl rfl ?_)
   refine g_nil ?_
   refine g_next hK7 ?_
   refine g_ret ?_
   refine g_block_ret ?_
   refine g_then_ret ?_
   have hN : doW room s i x = againW s x := doW_4 (by omega)
   refine g_end1 (.inl rfl) Try.results75 (.tmp rfl) effs1 (ASub.refl _) (AHeap.sub_refl _) ((hE1.weaken hn1).ok hG) ⟨by rw [hN], h', hE1.weaken hn1, by rw [hN]; exact hI1⟩
  ·
   try simp only [NM] at hc21
   refine g_skip ?_
   refine g_block_normal ?_
   refine g_next hK2 ?_
   refine g_seq (fun K8 hK8 => ?_)
   refine g_seq (fun K9 hK9 => ?_)
   refine g_region ?_
   refine g_step rfl (s_val (v_move rfl) rfl rfl ?_)
   refine g_step rfl (s_val (by first | exact v_ptr_eql_nil ty48 rfl rfl rfl | exact v_nil_eql_nil ty48 rfl rfl | exact v_ptrO_eql ty48 rfl rfl) rfl rfl ?_)
   refine g_nil ?_
   refine g_next hK9 ?_
   refine g_cond rfl (fun hc27 => ?_) (fun hc27 => ?_)
   · exfalso; (try simp only [NM] at hc27); first | (simp at hc27; done) | exact hc27 rfl
   ·
    try simp only [NM] at hc27
    refine g_skip ?_
    refine g_next hK8 ?_
    refine g_seq (fun K10 hK10 => ?_)
    refine g_seq (fun K11 hK11 => ?_)
    refine g_region ?_
    refine g_step rfl (s_fieldAddr ty87 fo87_0 ty3 rfl rfl ?_)
    refine g_step rfl (s_val (v_loadl ty3 rfl rfl rfl rfl) rfl rfl ?_)
    refine g_nil ?_
    refine g_next hK11 ?_
    refine g_block ?_
    refine g_seq (fun K12 hK12 => ?_)
    refine g_region ?_
    refine g_step rfl (s_val (v_eql rfl rfl) rfl rfl ?_)
    refine g_step rfl (s_val (v_assign rfl) rfl rfl ?_)
    refine g_nil ?_
    refine g_next hK12 ?_
    refine g_cond rfl (fun hc30 => ?_) (fun hc30 => ?_)
    ·
     try simp only [NM] at hc30
     refine g_seq (fun K13 hK13 => ?_)
     refine g_draw (n := 8) (fun j => !([7] : List Nat).contains j) rfl rfl ?_
     refine m_tk 0 false rfl rfl (by kernel_rfl) (v_move rfl) rfl rfl ?_
     refine m_tk 1 false rfl rfl (by kernel_rfl) (v_nilCheck rfl rfl) rfl rfl ?_
     refine m_tk 2 false rfl rfl (by kernel_rfl) (by first | exact v_fieldAddr ty125 fo125_1 ty122 rfl | exact v_fieldAddr_box ty125 fo125_1 ty122 rfl) rfl rfl ?_
     refine m_tk 3 true rfl rfl (by kernel_rfl) (by first | exact v_load ty122 rfl rfl (by first | rfl | assumption) (by first | assumption | exact map_get (by assumption) | rfl) rfl | exact v_load_box ty122 rfl rfl hww (by rfl)) rfl rfl ?_
     refine m_takel 4 rfl rfl (by kernel_rfl) (by kernel_rfl) (by kernel_rfl) (fun _ _ _ _ h => h) (vl_fieldAddr ty87 fo87_1 ty3 rfl) rfl rfl ?_
     refine m_tk 5 true rfl rfl (by kernel_rfl) (v_loadl ty3 rfl rfl rfl rfl) rfl rfl ?_
     refine m_tk 6 false rfl rfl (by kernel_rfl) (v_indexAddr ty122 ty48 rfl rfl hVt hxi (map_get ho) rfl) rfl rfl ?_
     refine m_one 7 (by kernel_rfl) rfl rfl ?_
     refine sm_any rfl (s_store_row (k := i) (off := 0) (old := .box p 0) (new := .nilp) ty48 rfl rfl htt (by rw [Nat.zero_add]; exact map_get ho) rfl rfl rfl rfl hDt ?_)
     rw [show (0 + i : Nat) = i from Nat.zero_add i, set_map_n]
     refine m_done (by kernel_rfl) ?_
     refine g_next hK13 ?_
     first | refine g_keep [] [] [] keep_nil lkeep_nil keep_nil rfl ?_ | refine g_keep [] [] [] rfl rfl rfl rfl ?_
     refine g_seq (fun K14 hK14 => ?_)
     refine g_region ?_
     refine g_step rfl (s_val (v_assign rfl) rfl rfl ?_)
     refine g_nil ?_
     refine g_next hK14 ?_
     refine g_ret ?_
     refine g_block_ret ?_
     refine g_then_ret ?_
     have hN : doW room s i x = (setT s i none, true) := by rw [doW_up (by omega) (by omega) hlo, if_pos (by omega)]
     refine g_end1 (.inl rfl) Try.results75 (.tmp rfl) [(tr, .row 1 ((pt.set i none).map tptr))] (ASub.refl _) (AHeap.sub_refl _) (((EffTo.refl h w0.heap.size).write (b := tr) (.row 1 ((pt.set i none).map tptr)) (.inl (by rw [hA.tt]; simp))).ok hG) ⟨by rw [hN]; rfl, _, ((EffTo.refl h w0.heap.size).write (b := tr) (.row 1 ((pt.set i none).map tptr)) (.inl (by rw [hA.tt]; simp))), by rw [hN]; exact ⟨tr, cr, mr, pt.set i none, rs, ls, hA.halt hipt, by show s.tl.set i _ = _; rw [htl]; exact (tlOf_halt hipt).symm⟩⟩
    ·
     try simp only [NM] at hc30
     refine g_seq (fun K15 hK15 => ?_)
     refine g_region ?_
     refine g_step rfl (s_val (v_eql rfl rfl) rfl rfl ?_)
     refine g_step rfl (s_val (v_assign rfl) rfl rfl ?_)
     refine g_nil ?_
     refine g_next hK15 ?_
     refine g_cond rfl (fun hc39 => ?_) (fun hc39 => ?_)
     ·
      try simp only [NM] at hc39
      refine g_seq (fun K16 hK16 => ?_)
      refine g_region ?_
      refine g_step rfl (s_val (v_move rfl) rfl rfl ?_)
      refine g_step rfl (s_val (v_move rfl) rfl rfl ?_)
      refine g_step rfl (s_val (by first | exact v_loadl_all ty87 rfl rfl rfl rfl rfl | exact v_loadl_part (cs := [_, _, _, _, _, _]) ty87 rfl rfl rfl rfl rfl rfl) rfl rfl ?_)
      refine g_step rfl (s_call rfl rfl rfl (wsend_ok h w tr cr mr room pt rs ls s x i p ho _ hA htl hhH hok hxn hxs) (fun b hb => .inl hb) ?_)
      rintro n1 rv1 effs1 hn1 hdom1 ⟨rfl, h', hE1, hI1⟩ hok1
      refine g_step rfl (s_val (v_assign rfl) rfl rfl ?_)
      refine g_nil ?_
      refine g_next hK16 ?_
      first | refine g_keep [4] [] [] (keep_cons rfl keep_nil) lkeep_nil keep_nil rfl ?_ | refine g_keep [4] [] [] rfl rfl rfl rfl ?_
      refine g_ret ?_
      refine g_block_ret ?_
      refine g_then_ret ?_
      have hN : doW room s i x = sendW s (ls i) x := by rw [doW_up (by omega) (by omega) hlo, if_neg (by omega), if_pos (by omega)]
      refine g_end1 (.inl rfl) Try.results75 (.tmp rfl) effs1 (ASub.refl _) (AHeap.sub_refl _) ((hE1.weaken hn1).ok hG) ⟨by rw [hN], h', hE1.weaken hn1, by rw [hN]; exact hI1⟩
     ·
      try simp only [NM] at hc39
      refine g_seq (fun K17 hK17 => ?_)
      refine g_region ?_
      refine g_step rfl (s_val (v_eql rfl rfl) rfl rfl ?_)
      refine g_step rfl (s_val (v_assign rfl) rfl rfl ?_)
      refine g_nil ?_
      refine g_next hK17 ?_
      first | refine g_keep [0, 5, 29, 45] [3] [3] (keep_cons rfl (keep_cons rfl (keep_cons rfl (keep_cons rfl keep_nil)))) (lkeep_cons rfl lkeep_nil) (keep_cons rfl keep_nil) rfl ?_ | refine g_keep [0, 5, 29, 45] [3] [3] rfl rfl rfl rfl ?_
      refine g_cond rfl (fun hc45 => ?_) (fun hc45 => ?_)
      ·
       try simp only [NM] at hc45
       refine g_seq (fun K18 hK18 => ?_)
       refine g_region ?_
       refine g_step rfl (s_val (v_move rfl) rfl rfl ?_)
       refine g_step rfl (s_val (v_move rfl) rfl rfl ?_)
       refine g_step rfl (s_val (by first | exact v_loadl_all ty87 rfl rfl rfl rfl rfl | exact v_loadl_part (cs := [_, _, _, _, _, _]) ty87 rfl rfl rfl rfl rfl rfl) rfl rfl ?_)
       refine g_step rfl (s_call rfl rfl rfl (whear_ok h w tr cr mr room pt rs ls s x i p ho _ hA htl hhH hok hxn hxs) (fun b hb => .inl hb) ?_)
       rintro n1 rv1 effs1 hn1 hdom1 ⟨rfl, h', hE1, hI1⟩ hok1
       refine g_step rfl (s_val (v_assign rfl) rfl rfl ?_)
       refine g_nil ?_
       refine g_next hK18 ?_
       refine g_ret ?_
       refine g_block_ret ?_
       refine g_then_ret ?_
       have hN : doW room s i x = hearW room s i (ls i) x := by rw [doW_up (by omega) (by omega) hlo, if_neg (by omega), if_neg (by omega), if_pos (by omega)]
       refine g_end1 (.inl rfl) Try.results75 (.tmp rfl) effs1 (ASub.refl _) (AHeap.sub_refl _) ((hE1.weaken hn1).ok hG) ⟨by rw [hN], h', hE1.weaken hn1, by rw [hN]; exact hI1⟩
      ·
       try simp only [NM] at hc45
       refine g_seq (fun K19 hK19 => ?_)
       refine g_region ?_
       refine g_step rfl (s_val (v_eql rfl rfl) rfl rfl ?_)
       refine g_step rfl (s_val (v_assign rfl) rfl rfl ?_)
       refine g_nil ?_
       refine g_next hK19 ?_
       refine g_cond rfl (fun hc51 => ?_) (fun hc51 => ?_)
       ·
        try simp only [NM] at hc51
        refine g_seq (fun K20 hK20 => ?_)
        refine g_region ?_
        refine g_step rfl (s_val (v_move rfl) rfl rfl ?_)
        refine g_step rfl (s_fieldAddr ty87 fo87_2 ty3 rfl rfl ?_)
        refine g_step rfl (s_val (v_loadl ty3 rfl rfl rfl rfl) rfl rfl ?_)
        refine g_step rfl (s_fieldAddr ty87 fo87_3 ty3 rfl rfl ?_)
        refine g_step rfl (s_val (v_loadl ty3 rfl rfl rfl rfl) rfl rfl ?_)
        refine g_step rfl (s_call rfl rfl rfl (suspect_ok p (rs i) (i : Int) room (ls i) x.other x.inc _ hT hl hM.b) (by rintro b (rfl | rfl); exact .inl hDp; exact .inl hDr) ?_)
        rintro n1 rv1 effs1 hn1 hdom1 ⟨rfl, hTE⟩ hok1
        obtain ⟨h', rs2, hE1, hW2⟩ := hA.act ho (sub_dom hhH hdom1) hTE
        have hI1 : WIs lmRow h' w room (setT s i (some _)) := ⟨tr, cr, mr, pt, rs2, _, hW2, by show s.tl.set i _ = _; rw [htl]; exact (tlOf_act ho).symm⟩
        refine g_step rfl (s_val (v_assign rfl) rfl rfl ?_)
        refine g_nil ?_
        refine g_next hK20 ?_
        refine g_ret ?_
        refine g_block_ret ?_
        refine g_then_ret ?_
        have hN : doW room s i x = (setT s i (some (moveT i (ls i) x.other x.inc 0 1).1), (moveT i (ls i) x.other x.inc 0 1).2) := by rw [doW_up (by omega) (by omega) hlo, if_neg (by omega), if_neg (by omega), if_neg (by omega), if_pos (by omega)]
        refine g_end1 (.inl rfl) Try.results75 (.tmp rfl) effs1 (ASub.refl _) (AHeap.sub_refl _) ((hE1.weaken hn1).ok hG) ⟨by rw [hN], h', hE1.weaken hn1, by rw [hN]; exact hI1⟩
       ·
        try simp only [NM] at hc51
        refine g_seq (fun K21 hK21 => ?_)
        refine g_region ?_
        refine g_step rfl (s_val (v_eql rfl rfl) rfl rfl ?_)
        refine g_step rfl (s_val (v_assign rfl) rfl rfl ?_)
        refine g_nil ?_
        refine g_next hK21 ?_
        refine g_cond rfl (fun hc59 => ?_) (fun hc59 => ?_)
        ·
         try simp only [NM] at hc59
         refine g_seq (fun K22 hK22 => ?_)
         refine g_region ?_
         refine g_step rfl (s_val (v_move rfl) rfl rfl ?_)
         refine g_step rfl (s_fieldAddr ty87 fo87_2 ty3 rfl rfl ?_)
         refine g_step rfl (s_val (v_loadl ty3 rfl rfl rfl rfl) rfl rfl ?_)
         refine g_step rfl (s_fieldAddr ty87 fo87_3 ty3 rfl rfl ?_)
         refine g_step rfl (s_val (v_loadl ty3 rfl rfl rfl rfl) rfl rfl ?_)
         refine g_step rfl (s_call rfl rfl rfl (bury_ok p (rs i) (i : Int) room (ls i) x.other x.inc _ hT hl hM.b) (by rintro b (rfl | rfl); exact .inl hDp; exact .inl hDr) ?_)
         rintro n1 rv1 effs1 hn1 hdom1 ⟨rfl, hTE⟩ hok1
         obtain ⟨h', rs2, hE1, hW2⟩ := hA.act ho (sub_dom hhH hdom1) hTE
         have hI1 : WIs lmRow h' w room (setT s i (some _)) := ⟨tr, cr, mr, pt, rs2, _, hW2, by show s.tl.set i _ = _; rw [htl]; exact (tlOf_act ho).symm⟩
         refine g_step rfl (s_val (v_assign rfl) rfl rfl ?_)
         refine g_nil ?_
         refine g_next hK22 ?_
         refine g_ret ?_
         refine g_block_ret ?_
         refine g_then_ret ?_
         have hN : doW room s i x = (setT s i (some (moveT i (ls i) x.other x.inc 1 2).1), (moveT i (ls i) x.other x.inc 1 2).2) := by rw [doW_up (by omega) (by omega) hlo, if_neg (by omega), if_neg (by omega), if_neg (by omega), if_neg (by omega), if_pos (by omega)]
         refine g_end1 (.inl rfl) Try.results75 (.tmp rfl) effs1 (ASub.refl _) (AHeap.sub_refl _) ((hE1.weaken hn1).ok hG) ⟨by rw [hN], h', hE1.weaken hn1, by rw [hN]; exact hI1⟩
        ·
         try simp only [NM] at hc59
         refine g_seq (fun K23 hK23 => ?_)
         refine g_region ?_
         refine g_step rfl (s_val (v_eql rfl rfl) rfl rfl ?_)
         refine g_step rfl (s_val (v_assign rfl) rfl rfl ?_)
         refine g_nil ?_
         refine g_next hK23 ?_
         refine g_cond rfl (fun hc67 => ?_) (fun hc67 => ?_)
         ·
          try simp only [NM] at hc67
          refine g_seq (fun K24 hK24 => ?_)
          refine g_region ?_
          refine g_step rfl (s_val (v_move rfl) rfl rfl ?_)
          refine g_step rfl (s_call rfl rfl rfl ((change_ok p (rs i) (i : Int) room (ls i) [] small0 _ hT hl hM.b q o hq1 hq2 hq3 ho1 ho9.2.2.1).args (args := [.box p 0, .nil0]) ⟨ASub.refl _, ASub.nil0, trivial⟩) (by rintro b (rfl | rfl); exact .inl hDp; exact .inl hDr) ?_)
          rintro n1 rv1 effs1 hn1 hdom1 ⟨rfl, hTE⟩ hok1
          obtain ⟨h', rs2, hE1, hW2⟩ := hA.act ho (sub_dom hhH hdom1) hTE
          have hI1 : WIs lmRow h' w room (setT s i (some _)) := ⟨tr, cr, mr, pt, rs2, _, hW2, by show s.tl.set i _ = _; rw [htl]; exact (tlOf_act ho).symm⟩
          refine g_step rfl (s_val (v_eql rfl rfl) rfl rfl ?_)
          refine g_step rfl (s_val (v_assign rfl) rfl rfl ?_)
          refine g_nil ?_
          refine g_next hK24 ?_
          refine g_ret ?_
          refine g_block_ret ?_
          refine g_then_ret ?_
          have hN : doW room s i x = (setT s i (some (changeT i (ls i) []).1), decide ((changeT i (ls i) []).2 = 0)) := by rw [doW_up (by omega) (by omega) hlo, if_neg (by omega), if_neg (by omega), if_neg (by omega), if_neg (by omega), if_neg (by omega), if_pos (by omega)]
          refine g_end1 (.inl rfl) Try.results75 (.tmp rfl) effs1 (ASub.refl _) (AHeap.sub_refl _) ((hE1.weaken hn1).ok hG) ⟨by rw [hN], h', hE1.weaken hn1, by rw [hN]; exact hI1⟩
         ·
          try simp only [NM] at hc67
          refine g_skip ?_
          refine g_block_normal ?_
          refine g_next hK10 ?_
          refine g_seq (fun K25 hK25 => ?_)
          refine g_region ?_
          refine g_step rfl (s_val (v_move rfl) rfl rfl ?_)
          refine g_step rfl (s_call rfl rfl rfl (leave_ok p (rs i) (i : Int) room (ls i) _ hT hl hM.b q o hq1 hq2 hq3 ho1) (by rintro b (rfl | rfl); exact .inl hDp; exact .inl hDr) ?_)
          rintro n1 rv1 effs1 hn1 hdom1 ⟨rfl, hTE⟩ hok1
          obtain ⟨h', rs2, hE1, hW2⟩ := hA.act ho (sub_dom hhH hdom1) hTE
          have hI1 : WIs lmRow h' w room (setT s i (some _)) := ⟨tr, cr, mr, pt, rs2, _, hW2, by show s.tl.set i _ = _; rw [htl]; exact (tlOf_act ho).symm⟩
          refine g_step rfl (s_val (v_assign rfl) rfl rfl ?_)
          refine g_nil ?_
          refine g_next hK25 ?_
          refine g_ret ?_
          have hN : doW room s i x = (setT s i (some (leaveT i (ls i)).1), (leaveT i (ls i)).2) := by rw [doW_up (by omega) (by omega) hlo, if_neg (by omega), if_neg (by omega), if_neg (by omega), if_neg (by omega), if_neg (by omega), if_neg (by omega)]
          refine g_end1 (.inl rfl) Try.results75 (.tmp rfl) effs1 (ASub.refl _) (AHeap.sub_refl _) ((hE1.weaken hn1).ok hG) ⟨by rw [hN], h', hE1.weaken hn1, by rw [hN]; exact hI1⟩

theorem wdo_ok (h : AHeap) (w tr cr mr : Nat) (room : Int) (pt : List (Option Nat)) (rs : Nat → Nat) (ls : Nat → List Rc) (s : Wd) (x : Mv) (i : Nat) (hi : i < pt.length) (hxi : x.node = (i : Int)) (h1 : 1 ≤ room) (h48 : room ≤ 48) (G : AHeap) (hA : WA (lmRow s.post) h w tr cr mr room pt rs ls s.cells) (htl : s.tl = tlOf pt ls) (hG : h.sub G) (hok : WOk room s) (hxn : x.recs.length ≤ 1000) (hxs : ∀ y ∈ x.recs, Small y.bag) : LCalls Try.prog 75 [.box w 0, encMv x] G (fun b => h b ≠ none) (fun n v effs => v = .bool (doW room s i x).2 ∧ ∃ h', EffTo h h' n effs ∧ WIs lmRow h' w room (doW room s i x).1) := by
  rcases pt_cases pt hi with ho | ⟨p, ho⟩
  · exact wdoDn_ok h w tr cr mr room pt rs ls s x i ho hxi h1 h48 G hA htl hG hok hxn hxs
  · exact wdoUp_ok h w tr cr mr room pt rs ls s x i p ho hxi h1 h48 G hA htl hG hok hxn hxs
end Go.Proofs.Ytgipbhfblmblcaa

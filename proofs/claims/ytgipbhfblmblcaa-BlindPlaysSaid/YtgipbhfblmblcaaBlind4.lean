import Derived.Test.YtgipbhfblmblcaaBlind3
set_option maxHeartbeats 8000000
set_option linter.unusedSimpArgs false
set_option linter.unusedVariables false
set_option maxRecDepth 100000
namespace Go.Proofs.Ytgipbhfblmblcaa
open Go Go.Proofs.Ytgipbhfblmblcaa.AM
theorem wDo_ok (h : AHeap) (w : Nat) (room : Int) (s : Wd) (x : Mv) (G : AHeap) (hI : WIs lmRow h w room s) (hG : h.sub G) (hok : WOk room s) (hxn : x.recs.length ≤ 1000) (hxs : ∀ y ∈ x.recs, Small y.bag) (h1 : 1 ≤ room) (h48 : room ≤ 48) : LCalls Try.prog 42 [.box w 0, encMv x] G (fun b => h b ≠ none) (fun n v effs => v = .int .i64 (DoW room s x).2 ∧ ∃ h', EffTo h h' n effs ∧ WIs lmRow h' w room (DoW room s x).1) := by
 refine LCalls.intro 68 fi42 rfl Try.ntmps42 rfl (fun b hb => sub_some hG hb) (fun H hH w0 hw0 => ?_)
 have hI0 := hI
 obtain ⟨tr, cr, mr, pt, rs, ls, hA, htl⟩ := hI
 have hhH := AHeap.sub_trans hG hH
 have hww := hhH _ _ hA.ww
 have htt := hhH _ _ hA.tt
 have htn : s.tl.length = pt.length := by rw [htl, tlOf_len]
 have h32 := hok.n32
 have hVt : (AV.own tr 1 0 pt.length).view H = some (pt.map tptr) := AV.view_own_all htt (by simp)
 refine g_seq (fun K0 hK0 => ?_)
 refine g_region ?_
 refine g_step rfl (s_box rfl rfl rfl rfl ?_)
 refine g_step rfl (s_val (v_assign rfl) rfl rfl ?_)
 refine g_nil ?_
 refine g_next hK0 ?_
 refine g_seq (fun K1 hK1 => ?_)
 refine g_block ?_
 refine g_seq (fun K2 hK2 => ?_)
 refine g_region ?_
 refine g_step rfl (s_val (v_move rfl) rfl rfl ?_)
 refine g_step rfl (s_val (by first | exact v_ptr_eql_nil ty78 rfl rfl rfl | exact v_nil_eql_nil ty78 rfl rfl | exact v_ptrO_eql ty78 rfl rfl) rfl rfl ?_)
 refine g_step rfl (s_val (v_assign rfl) rfl rfl ?_)
 refine g_nil ?_
 refine g_next hK2 ?_
 refine g_cond rfl (fun hc6 => ?_) (fun hc6 => ?_)
 · exfalso; (try simp only [NM] at hc6); simp at hc6
 ·
  try simp only [NM] at hc6
  refine g_seq (fun K3 hK3 => ?_)
  refine g_draw (n := 24) (fun j => !([] : List Nat).contains j) rfl rfl ?_
  refine m_takel 0 rfl rfl (by kernel_rfl) (by kernel_rfl) (by kernel_rfl) (fun _ _ _ _ h => h) (vl_fieldAddr ty87 fo87_0 ty3 rfl) rfl rfl ?_
  refine m_tk 1 true rfl rfl (by kernel_rfl) (v_loadl ty3 rfl rfl rfl rfl) rfl rfl ?_
  refine m_tk 2 false rfl rfl (by kernel_rfl) (v_lss rfl rfl) rfl rfl ?_
  refine m_tk 3 false rfl rfl (by kernel_rfl) (v_move rfl) rfl rfl ?_
  refine m_split 13 rfl (fun hg13 => ?_) (fun hg13 => ?_)
  ·
   try simp only [NM] at hg13
   refine m_take_no (j := 3) (t := 13) 4 rfl rfl rfl rfl rfl rfl (by kernel_rfl) (by kernel_rfl) (by kernel_rfl) (fun _ _ _ _ h => h) rfl rfl ?_
   refine m_take_no (j := 3) (t := 13) 5 rfl rfl rfl rfl rfl rfl (by kernel_rfl) (by kernel_rfl) (by kernel_rfl) (fun _ _ _ _ h => h) rfl rfl ?_
   refine m_take_no (j := 3) (t := 13) 6 rfl rfl rfl rfl rfl rfl (by kernel_rfl) (by kernel_rfl) (by kernel_rfl) (fun _ _ _ _ h => h) rfl rfl ?_
   refine m_tk 7 false rfl rfl (by kernel_rfl) (v_pick_t rfl rfl) rfl rfl ?_
   refine m_tk 8 false rfl rfl (by kernel_rfl) (v_move rfl) rfl rfl ?_
   refine m_take_no (j := 8) (t := 18) 9 rfl rfl rfl rfl rfl rfl (by kernel_rfl) (by kernel_rfl) (by kernel_rfl) (fun _ _ _ _ h => h) rfl rfl ?_
   refine m_take_no (j := 8) (t := 18) 10 rfl rfl rfl rfl rfl rfl (by kernel_rfl) (by kernel_rfl) (by kernel_rfl) (fun _ _ _ _ h => h) rfl rfl ?_
   refine m_take_no (j := 8) (t := 18) 11 rfl rfl rfl rfl rfl rfl (by kernel_rfl) (by kernel_rfl) (by kernel_rfl) (fun _ _ _ _ h => h) rfl rfl ?_
   refine m_tk 12 false rfl rfl (by kernel_rfl) (v_pick_t rfl rfl) rfl rfl ?_
   refine m_tk 13 false rfl rfl (by kernel_rfl) (v_move rfl) rfl rfl ?_
   refine m_take_no (j := 13) (t := 23) 14 rfl rfl rfl rfl rfl rfl (by kernel_rfl) (by kernel_rfl) (by kernel_rfl) (fun _ _ _ _ h => h) rfl rfl ?_
   refine m_take_no (j := 13) (t := 23) 15 rfl rfl rfl rfl rfl rfl (by kernel_rfl) (by kernel_rfl) (by kernel_rfl) (fun _ _ _ _ h => h) rfl rfl ?_
   refine m_take_no (j := 13) (t := 23) 16 rfl rfl rfl rfl rfl rfl (by kernel_rfl) (by kernel_rfl) (by kernel_rfl) (fun _ _ _ _ h => h) rfl rfl ?_
   refine m_take_no (j := 13) (t := 23) 17 rfl rfl rfl rfl rfl rfl (by kernel_rfl) (by kernel_rfl) (by kernel_rfl) (fun _ _ _ _ h => h) rfl rfl ?_
   refine m_take_no (j := 13) (t := 23) 18 rfl rfl rfl rfl rfl rfl (by kernel_rfl) (by kernel_rfl) (by kernel_rfl) (fun _ _ _ _ h => h) rfl rfl ?_
   refine m_take_no (j := 13) (t := 23) 19 rfl rfl rfl rfl rfl rfl (by kernel_rfl) (by kernel_rfl) (by kernel_rfl) (fun _ _ _ _ h => h) rfl rfl ?_
   refine m_take_no (j := 13) (t := 23) 20 rfl rfl rfl rfl rfl rfl (by kernel_rfl) (by kernel_rfl) (by kernel_rfl) (fun _ _ _ _ h => h) rfl rfl ?_
   refine m_take_no (j := 13) (t := 23) 21 rfl rfl rfl rfl rfl rfl (by kernel_rfl) (by kernel_rfl) (by kernel_rfl) (fun _ _ _ _ h => h) rfl rfl ?_
   refine m_tk 22 false rfl rfl (by kernel_rfl) (v_pick_t rfl rfl) rfl rfl ?_
   refine m_tk 23 false rfl rfl (by kernel_rfl) (v_assign rfl) rfl rfl ?_
   refine m_done (by kernel_rfl) ?_
   refine g_next hK3 ?_
   first | refine g_keep [0, 9] [3] [3] (keep_cons rfl (keep_cons rfl keep_nil)) (lkeep_cons rfl lkeep_nil) (keep_cons rfl keep_nil) rfl ?_ | refine g_keep [0, 9] [3] [3] rfl rfl rfl rfl ?_
   refine g_cond rfl (fun _ => ?_) (fun h => by cases h)
   refine g_seq (fun K4 hK4 => ?_)
   refine g_region ?_
   refine g_step rfl (s_val (v_assign rfl) rfl rfl ?_)
   refine g_nil ?_
   refine g_next hK4 ?_
   refine g_ret ?_
   refine g_block_ret ?_
   refine g_then_ret ?_
   have hN : DoW room s x = (s, 1) := DoW_bad (by first | omega | (simp_all; omega))
   refine g_end1 (.inl rfl) Try.results42 (.tmp rfl) [] (ASub.refl _) (AHeap.sub_refl _) (fun p hp => by cases hp) ⟨by rw [hN]; rfl, h, EffTo.refl _ _, by rw [hN]; exact hI0⟩
  ·
   try simp only [NM] at hg13
   refine m_takel_yes (j := 3) (t := 13) 4 rfl rfl rfl rfl rfl (by kernel_rfl) (by kernel_rfl) (by kernel_rfl) (fun _ _ _ _ h => h) (vl_fieldAddr ty87 fo87_0 ty3 rfl) rfl rfl ?_
   refine m_take_yes (j := 3) (t := 13) 5 true rfl rfl rfl rfl rfl (by kernel_rfl) (by kernel_rfl) (by kernel_rfl) (fun _ _ _ _ h => h) (v_loadl ty3 rfl rfl rfl rfl) rfl rfl ?_
   refine m_take_yes (j := 3) (t := 13) 6 false rfl rfl rfl rfl rfl (by kernel_rfl) (by kernel_rfl) (by kernel_rfl) (fun _ _ _ _ h => h) (v_gtr rfl rfl) rfl rfl ?_
   refine m_tk 7 false rfl rfl (by kernel_rfl) (v_pick_f rfl rfl) rfl rfl ?_
   refine m_tk 8 false rfl rfl (by kernel_rfl) (v_move rfl) rfl rfl ?_
   refine m_split 18 rfl (fun hg18 => ?_) (fun hg18 => ?_)
   ·
    try simp only [NM] at hg18
    refine m_take_no (j := 8) (t := 18) 9 rfl rfl rfl rfl rfl rfl (by kernel_rfl) (by kernel_rfl) (by kernel_rfl) (fun _ _ _ _ h => h) rfl rfl ?_
    refine m_take_no (j := 8) (t := 18) 10 rfl rfl rfl rfl rfl rfl (by kernel_rfl) (by kernel_rfl) (by kernel_rfl) (fun _ _ _ _ h => h) rfl rfl ?_
    refine m_take_no (j := 8) (t := 18) 11 rfl rfl rfl rfl rfl rfl (by kernel_rfl) (by kernel_rfl) (by kernel_rfl) (fun _ _ _ _ h => h) rfl rfl ?_
    refine m_tk 12 false rfl rfl (by kernel_rfl) (v_pick_t rfl rfl) rfl rfl ?_
    refine m_tk 13 false rfl rfl (by kernel_rfl) (v_move rfl) rfl rfl ?_
    refine m_take_no (j := 13) (t := 23) 14 rfl rfl rfl rfl rfl rfl (by kernel_rfl) (by kernel_rfl) (by kernel_rfl) (fun _ _ _ _ h => h) rfl rfl ?_
    refine m_take_no (j := 13) (t := 23) 15 rfl rfl rfl rfl rfl rfl (by kernel_rfl) (by kernel_rfl) (by kernel_rfl) (fun _ _ _ _ h => h) rfl rfl ?_
    refine m_take_no (j := 13) (t := 23) 16 rfl rfl rfl rfl rfl rfl (by kernel_rfl) (by kernel_rfl) (by kernel_rfl) (fun _ _ _ _ h => h) rfl rfl ?_
    refine m_take_no (j := 13) (t := 23) 17 rfl rfl rfl rfl rfl rfl (by kernel_rfl) (by kernel_rfl) (by kernel_rfl) (fun _ _ _ _ h => h) rfl rfl ?_
    refine m_take_no (j := 13) (t := 23) 18 rfl rfl rfl rfl rfl rfl (by kernel_rfl) (by kernel_rfl) (by kernel_rfl) (fun _ _ _ _ h => h) rfl rfl ?_
    refine m_take_no (j := 13) (t := 23) 19 rfl rfl rfl rfl rfl rfl (by kernel_rfl) (by kernel_rfl) (by kernel_rfl) (fun _ _ _ _ h => h) rfl rfl ?_
    refine m_take_no (j := 13) (t := 23) 20 rfl rfl rfl rfl rfl rfl (by kernel_rfl) (by kernel_rfl) (by kernel_rfl) (fun _ _ _ _ h => h) rfl rfl ?_
    refine m_take_no (j := 13) (t := 23) 21 rfl rfl rfl rfl rfl rfl (by kernel_rfl) (by kernel_rfl) (by kernel_rfl) (fun _ _ _ _ h => h) rfl rfl ?_
    refine m_tk 22 false rfl rfl (by kernel_rfl) (v_pick_t rfl rfl) rfl rfl ?_
    refine m_tk 23 false rfl rfl (by kernel_rfl) (v_assign rfl) rfl rfl ?_
    refine m_done (by kernel_rfl) ?_
    refine g_next hK3 ?_
    first | refine g_keep [0, 9] [3] [3] (keep_cons rfl (keep_cons rfl keep_nil)) (lkeep_cons rfl lkeep_nil) (keep_cons rfl keep_nil) rfl ?_ | refine g_keep [0, 9] [3] [3] rfl rfl rfl rfl ?_
    refine g_cond rfl (fun _ => ?_) (fun h => by cases h)
    refine g_seq (fun K5 hK5 => ?_)
    refine g_region ?_
    refine g_step rfl (s_val (v_assign rfl) rfl rfl ?_)
    refine g_nil ?_
    refine g_next hK5 ?_
    refine g_ret ?_
    refine g_block_ret ?_
    refine g_then_ret ?_
    have hN : DoW room s x = (s, 1) := DoW_bad (by first | omega | (simp_all; omega))
    refine g_end1 (.inl rfl) Try.results42 (.tmp rfl) [] (ASub.refl _) (AHeap.sub_refl _) (fun p hp => by cases hp) ⟨by rw [hN]; rfl, h, EffTo.refl _ _, by rw [hN]; exact hI0⟩
   ·
    try simp only [NM] at hg18
    refine m_takel_yes (j := 8) (t := 18) 9 rfl rfl rfl rfl rfl (by kernel_rfl) (by kernel_rfl) (by kernel_rfl) (fun _ _ _ _ h => h) (vl_fieldAddr ty87 fo87_1 ty3 rfl) rfl rfl ?_
    refine m_take_yes (j := 8) (t := 18) 10 true rfl rfl rfl rfl rfl (by kernel_rfl) (by kernel_rfl) (by kernel_rfl) (fun _ _ _ _ h => h) (v_loadl ty3 rfl rfl rfl rfl) rfl rfl ?_
    refine m_take_yes (j := 8) (t := 18) 11 false rfl rfl rfl rfl rfl (by kernel_rfl) (by kernel_rfl) (by kernel_rfl) (fun _ _ _ _ h => h) (v_lss rfl rfl) rfl rfl ?_
    refine m_tk 12 false rfl rfl (by kernel_rfl) (v_pick_f rfl rfl) rfl rfl ?_
    refine m_tk 13 false rfl rfl (by kernel_rfl) (v_move rfl) rfl rfl ?_
    refine m_split 23 rfl (fun hg23 => ?_) (fun hg23 => ?_)
    ·
     try simp only [NM] at hg23
     refine m_take_no (j := 13) (t := 23) 14 rfl rfl rfl rfl rfl rfl (by kernel_rfl) (by kernel_rfl) (by kernel_rfl) (fun _ _ _ _ h => h) rfl rfl ?_
     refine m_take_no (j := 13) (t := 23) 15 rfl rfl rfl rfl rfl rfl (by kernel_rfl) (by kernel_rfl) (by kernel_rfl) (fun _ _ _ _ h => h) rfl rfl ?_
     refine m_take_no (j := 13) (t := 23) 16 rfl rfl rfl rfl rfl rfl (by kernel_rfl) (by kernel_rfl) (by kernel_rfl) (fun _ _ _ _ h => h) rfl rfl ?_
     refine m_take_no (j := 13) (t := 23) 17 rfl rfl rfl rfl rfl rfl (by kernel_rfl) (by kernel_rfl) (by kernel_rfl) (fun _ _ _ _ h => h) rfl rfl ?_
     refine m_take_no (j := 13) (t := 23) 18 rfl rfl rfl rfl rfl rfl (by kernel_rfl) (by kernel_rfl) (by kernel_rfl) (fun _ _ _ _ h => h) rfl rfl ?_
     refine m_take_no (j := 13) (t := 23) 19 rfl rfl rfl rfl rfl rfl (by kernel_rfl) (by kernel_rfl) (by kernel_rfl) (fun _ _ _ _ h => h) rfl rfl ?_
     refine m_take_no (j := 13) (t := 23) 20 rfl rfl rfl rfl rfl rfl (by kernel_rfl) (by kernel_rfl) (by kernel_rfl) (fun _ _ _ _ h => h) rfl rfl ?_
     refine m_take_no (j := 13) (t := 23) 21 rfl rfl rfl rfl rfl rfl (by kernel_rfl) (by kernel_rfl) (by kernel_rfl) (fun _ _ _ _ h => h) rfl rfl ?_
     refine m_tk 22 false rfl rfl (by kernel_rfl) (v_pick_t rfl rfl) rfl rfl ?_
     refine m_tk 23 false rfl rfl (by kernel_rfl) (v_assign rfl) rfl rfl ?_
     refine m_done (by kernel_rfl) ?_
     refine g_next hK3 ?_
     first | refine g_keep [0, 9] [3] [3] (keep_cons rfl (keep_cons rfl keep_nil)) (lkeep_cons rfl lkeep_nil) (keep_cons rfl keep_nil) rfl ?_ | refine g_keep [0, 9] [3] [3] rfl rfl rfl rfl ?_
     refine g_cond rfl (fun _ => ?_) (fun h => by cases h)
     refine g_seq (fun K6 hK6 => ?_)
     refine g_region ?_
     refine g_step rfl (s_val (v_assign rfl) rfl rfl ?_)
     refine g_nil ?_
     refine g_next hK6 ?_
     refine g_ret ?_
     refine g_block_ret ?_
     refine g_then_ret ?_
     have hN : DoW room s x = (s, 1) := DoW_bad (by first | omega | (simp_all; omega))
     refine g_end1 (.inl rfl) Try.results42 (.tmp rfl) [] (ASub.refl _) (AHeap.sub_refl _) (fun p hp => by cases hp) ⟨by rw [hN]; rfl, h, EffTo.refl _ _, by rw [hN]; exact hI0⟩
    ·
     try simp only [NM] at hg23
     refine m_takel_yes (j := 13) (t := 23) 14 rfl rfl rfl rfl rfl (by kernel_rfl) (by kernel_rfl) (by kernel_rfl) (fun _ _ _ _ h => h) (vl_fieldAddr ty87 fo87_1 ty3 rfl) rfl rfl ?_
     refine m_take_yes (j := 13) (t := 23) 15 true rfl rfl rfl rfl rfl (by kernel_rfl) (by kernel_rfl) (by kernel_rfl) (fun _ _ _ _ h => h) (v_loadl ty3 rfl rfl rfl rfl) rfl rfl ?_
     refine m_take_yes (j := 13) (t := 23) 16 false rfl rfl rfl rfl rfl (by kernel_rfl) (by kernel_rfl) (by kernel_rfl) (fun _ _ _ _ h => h) (v_move rfl) rfl rfl ?_
     refine m_take_yes (j := 13) (t := 23) 17 false rfl rfl rfl rfl rfl (by kernel_rfl) (by kernel_rfl) (by kernel_rfl) (fun _ _ _ _ h => h) (v_nilCheck rfl rfl) rfl rfl ?_
     refine m_take_yes (j := 13) (t := 23) 18 false rfl rfl rfl rfl rfl (by kernel_rfl) (by kernel_rfl) (by kernel_rfl) (fun _ _ _ _ h => h) (by first | exact v_fieldAddr ty125 fo125_1 ty122 rfl | exact v_fieldAddr_box ty125 fo125_1 ty122 rfl) rfl rfl ?_
     refine m_take_yes (j := 13) (t := 23) 19 true rfl rfl rfl rfl rfl (by kernel_rfl) (by kernel_rfl) (by kernel_rfl) (fun _ _ _ _ h => h) (by first | exact v_load ty122 rfl rfl (by first | rfl | assumption) (by first | assumption | exact map_get (by assumption) | rfl) rfl | exact v_load_box ty122 rfl rfl hww (by rfl)) rfl rfl ?_
     refine m_take_yes (j := 13) (t := 23) 20 false rfl rfl rfl rfl rfl (by kernel_rfl) (by kernel_rfl) (by kernel_rfl) (fun _ _ _ _ h => h) (v_len ty122 rfl hVt (show _ = pt.length by simp)) rfl rfl ?_
     refine m_take_yes (j := 13) (t := 23) 21 false rfl rfl rfl rfl rfl (by kernel_rfl) (by kernel_rfl) (by kernel_rfl) (fun _ _ _ _ h => h) (v_geq rfl rfl) rfl rfl ?_
     refine m_tk 22 false rfl rfl (by kernel_rfl) (v_pick_f rfl rfl) rfl rfl ?_
     refine m_tk 23 false rfl rfl (by kernel_rfl) (v_assign rfl) rfl rfl ?_
     refine m_done (by kernel_rfl) ?_
     refine g_next hK3 ?_
     first | refine g_keep [0, 9] [3] [3] (keep_cons rfl (keep_cons rfl keep_nil)) (lkeep_cons rfl lkeep_nil) (keep_cons rfl keep_nil) rfl ?_ | refine g_keep [0, 9] [3] [3] rfl rfl rfl rfl ?_
     refine g_cond rfl (fun hc9 => ?_) (fun hc9 => ?_)
     ·
      try simp only [NM] at hc9
      refine g_seq (fun K7 hK7 => ?_)
      refine g_region ?_
      refine g_step rfl (s_val (v_assign rfl) rfl rfl ?_)
      refine g_nil ?_
      refine g_next hK7 ?_
      refine g_ret ?_
      refine g_block_ret ?_
      refine g_then_ret ?_
      have hN : DoW room s x = (s, 1) := DoW_bad (by first | omega | (simp_all; omega))
      refine g_end1 (.inl rfl) Try.results42 (.tmp rfl) [] (ASub.refl _) (AHeap.sub_refl _) (fun p hp => by cases hp) ⟨by rw [hN]; rfl, h, EffTo.refl _ _, by rw [hN]; exact hI0⟩
     ·
      try simp only [NM] at hc9
      refine g_seq (fun K8 hK8 => ?_)
      refine g_region ?_
      have hnb : ¬ (x.kind < 1 ∨ 9 < x.kind ∨ x.node < 0 ∨ (s.tl.length : Int) ≤ x.node) := by first | omega | (simp_all; omega)
      obtain ⟨j, hj⟩ := Int.eq_ofNat_of_zero_le (a := x.node) (by omega)
      have hjl : j < pt.length := by omega
      refine g_step rfl (s_val (v_move rfl) rfl rfl ?_)
      refine g_step rfl (s_val (by first | exact v_loadl_all ty87 rfl rfl rfl rfl rfl | exact v_loadl_part (cs := [_, _, _, _, _, _]) ty87 rfl rfl rfl rfl rfl rfl) rfl rfl ?_)
      refine g_step rfl (s_call rfl rfl rfl (wdo_ok h w tr cr mr room pt rs ls s x j hjl hj h1 h48 _ hA htl hhH hok hxn hxs) (fun b hb => .inl hb) ?_)
      rintro n1 rv1 effs1 hn1 hdom1 ⟨rfl, h', hE1, tr1, cr1, mr1, pt1, rs1, ls1, hA1, htl1⟩ hok1
      have hok2 : WOk room (doW room s j x).1 := doW_ok hok x hxn (bootW_ok hok h1 h48 j x)
      have hs1 := hE1.within hhH
      have hww1 := hs1 _ _ hA1.ww
      have htt1 := hs1 _ _ hA1.tt
      have hcc1 := hs1 _ _ hA1.cc
      have hcn1 := hA1.len
      have hdl := doW_len room s j x
      have hpl1 : pt1.length = pt.length := by rw [← tlOf_len pt1 ls1, ← htl1, hdl.1, htn]
      have hVt1 := AV.view_own_all (l := pt1.map tptr) htt1 (n := pt1.length) (by simp)
      have hVc1 := AV.view_own_all (l := (doW room s j x).1.cells.map (.int .i64)) hcc1 (n := pt1.length) (by rw [List.length_map, hcn1])
      rcases pt_cases pt1 (j := j) (by omega) with ho1 | ⟨q, ho1⟩
      ·
       refine g_step rfl (s_val (v_not rfl) rfl rfl ?_)
       refine g_step rfl (s_val (v_assign rfl) rfl rfl ?_)
       refine g_nil ?_
       refine g_next hK8 ?_
       refine g_cond rfl (fun hc33 => ?_) (fun hc33 => ?_)
       ·
        try simp only [NM] at hc33
        refine g_seq (fun K9 hK9 => ?_)
        refine g_region ?_
        refine g_step rfl (s_val (v_assign rfl) rfl rfl ?_)
        refine g_nil ?_
        refine g_next hK9 ?_
        refine g_ret ?_
        refine g_block_ret ?_
        refine g_then_ret ?_
        have hN := DoW_no hnb hj (by simpa using hc33)
        refine g_end1 (.inl rfl) Try.results42 (.tmp rfl) effs1 (ASub.refl _) (AHeap.sub_refl _) ((hE1.weaken hn1).ok hG) ⟨by rw [hN]; rfl, h', (hE1.weaken hn1), by rw [hN]; exact ⟨tr1, cr1, mr1, pt1, rs1, ls1, hA1, htl1⟩⟩
       ·
        try simp only [NM] at hc33
        refine g_skip ?_
        refine g_block_normal ?_
        refine g_next hK1 ?_
        refine g_seq (fun K10 hK10 => ?_)
        refine g_seq (fun K11 hK11 => ?_)
        refine g_draw (n := 9) (fun j => !([] : List Nat).contains j) rfl rfl ?_
        refine m_tk 0 false rfl rfl (by kernel_rfl) (v_move rfl) rfl rfl ?_
        refine m_tk 1 false rfl rfl (by kernel_rfl) (v_nilCheck rfl rfl) rfl rfl ?_
        refine m_tk 2 false rfl rfl (by kernel_rfl) (by first | exact v_fieldAddr ty125 fo125_1 ty122 rfl | exact v_fieldAddr_box ty125 fo125_1 ty122 rfl) rfl rfl ?_
        refine m_tk 3 true rfl rfl (by kernel_rfl) (by first | exact v_load ty122 rfl rfl (by first | rfl | assumption) (by first | assumption | exact map_get (by assumption) | rfl) rfl | exact v_load_box ty122 rfl rfl hww1 (by rfl)) rfl rfl ?_
        refine m_takel 4 rfl rfl (by kernel_rfl) (by kernel_rfl) (by kernel_rfl) (fun _ _ _ _ h => h) (vl_fieldAddr ty87 fo87_1 ty3 rfl) rfl rfl ?_
        refine m_tk 5 true rfl rfl (by kernel_rfl) (v_loadl ty3 rfl rfl rfl rfl) rfl rfl ?_
        refine m_tk 6 false rfl rfl (by kernel_rfl) (v_indexAddr ty122 ty48 rfl rfl hVt1 hj (map_get ho1) rfl) rfl rfl ?_
        refine m_tk 7 true rfl rfl (by kernel_rfl) (by first | exact v_load ty48 rfl rfl hVt1 (map_get ho1) rfl | exact v_load_box ty48 rfl rfl (by assumption) rfl) rfl rfl ?_
        refine m_tk 8 false rfl rfl (by kernel_rfl) (v_assign rfl) rfl rfl ?_
        refine m_done (by kernel_rfl) ?_
        refine g_next hK11 ?_
        refine g_seq (fun K12 hK12 => ?_)
        refine g_region ?_
        refine g_step rfl (s_val (v_move rfl) rfl rfl ?_)
        refine g_step rfl (s_val (by first | exact v_ptr_neq_nil ty48 rfl rfl rfl | exact v_nil_neq_nil ty48 rfl rfl | exact v_ptrO_neq ty48 rfl rfl) rfl rfl ?_)
        refine g_nil ?_
        refine g_next hK12 ?_
        refine g_cond rfl (fun hc47 => ?_) (fun hc47 => ?_)
        · exfalso; (try simp only [NM] at hc47); first | exact hc47 rfl | (simp at hc47; done)
        ·
         try simp only [NM] at hc47
         refine g_skip ?_
         refine g_next hK10 ?_
         refine g_seq (fun K13 hK13 => ?_)
         refine g_region ?_
         refine g_step rfl (s_val (v_assign rfl) rfl rfl ?_)
         refine g_nil ?_
         refine g_next hK13 ?_
         refine g_ret ?_
         have hlo : lOf (doW room s j x).1 j = none := lOf_of htl1 ho1
         have hN := DoW_yes hnb hj (by simpa using hc33)
         rw [cellW_dn hlo] at hN
         refine g_end1 (.inl rfl) Try.results42 (.tmp rfl) effs1 (ASub.refl _) (AHeap.sub_refl _) ((hE1.weaken hn1).ok hG) ⟨by rw [hN]; rfl, h', (hE1.weaken hn1), by rw [hN]; exact ⟨tr1, cr1, mr1, pt1, rs1, ls1, hA1, htl1⟩⟩
      ·
       refine g_step rfl (s_val (v_not rfl) rfl rfl ?_)
       refine g_step rfl (s_val (v_assign rfl) rfl rfl ?_)
       refine g_nil ?_
       refine g_next hK8 ?_
       refine g_cond rfl (fun hc33 => ?_) (fun hc33 => ?_)
       ·
        try simp only [NM] at hc33
        refine g_seq (fun K14 hK14 => ?_)
        refine g_region ?_
        refine g_step rfl (s_val (v_assign rfl) rfl rfl ?_)
        refine g_nil ?_
        refine g_next hK14 ?_
        refine g_ret ?_
        refine g_block_ret ?_
        refine g_then_ret ?_
        have hN := DoW_no hnb hj (by simpa using hc33)
        refine g_end1 (.inl rfl) Try.results42 (.tmp rfl) effs1 (ASub.refl _) (AHeap.sub_refl _) ((hE1.weaken hn1).ok hG) ⟨by rw [hN]; rfl, h', (hE1.weaken hn1), by rw [hN]; exact ⟨tr1, cr1, mr1, pt1, rs1, ls1, hA1, htl1⟩⟩
       ·
        try simp only [NM] at hc33
        refine g_skip ?_
        refine g_block_normal ?_
        refine g_next hK1 ?_
        refine g_seq (fun K15 hK15 => ?_)
        refine g_seq (fun K16 hK16 => ?_)
        refine g_draw (n := 9) (fun j => !([] : List Nat).contains j) rfl rfl ?_
        refine m_tk 0 false rfl rfl (by kernel_rfl) (v_move rfl) rfl rfl ?_
        refine m_tk 1 false rfl rfl (by kernel_rfl) (v_nilCheck rfl rfl) rfl rfl ?_
        refine m_tk 2 false rfl rfl (by kernel_rfl) (by first | exact v_fieldAddr ty125 fo125_1 ty122 rfl | exact v_fieldAddr_box ty125 fo125_1 ty122 rfl) rfl rfl ?_
        refine m_tk 3 true rfl rfl (by kernel_rfl) (by first | exact v_load ty122 rfl rfl (by first | rfl | assumption) (by first | assumption | exact map_get (by assumption) | rfl) rfl | exact v_load_box ty122 rfl rfl hww1 (by rfl)) rfl rfl ?_
        refine m_takel 4 rfl rfl (by kernel_rfl) (by kernel_rfl) (by kernel_rfl) (fun _ _ _ _ h => h) (vl_fieldAddr ty87 fo87_1 ty3 rfl) rfl rfl ?_
        refine m_tk 5 true rfl rfl (by kernel_rfl) (v_loadl ty3 rfl rfl rfl rfl) rfl rfl ?_
        refine m_tk 6 false rfl rfl (by kernel_rfl) (v_indexAddr ty122 ty48 rfl rfl hVt1 hj (map_get ho1) rfl) rfl rfl ?_
        refine m_tk 7 true rfl rfl (by kernel_rfl) (by first | exact v_load ty48 rfl rfl hVt1 (map_get ho1) rfl | exact v_load_box ty48 rfl rfl (by assumption) rfl) rfl rfl ?_
        refine m_tk 8 false rfl rfl (by kernel_rfl) (v_assign rfl) rfl rfl ?_
        refine m_done (by kernel_rfl) ?_
        refine g_next hK16 ?_
        refine g_seq (fun K17 hK17 => ?_)
        refine g_region ?_
        refine g_step rfl (s_val (v_move rfl) rfl rfl ?_)
        refine g_step rfl (s_val (by first | exact v_ptr_neq_nil ty48 rfl rfl rfl | exact v_nil_neq_nil ty48 rfl rfl | exact v_ptrO_neq ty48 rfl rfl) rfl rfl ?_)
        refine g_nil ?_
        refine g_next hK17 ?_
        refine g_cond rfl (fun hc47 => ?_) (fun hc47 => ?_)
        ·
         try simp only [NM] at hc47
         refine g_draw (n := 21) (fun j => !([20] : List Nat).contains j) rfl rfl ?_
         have hlo : lOf (doW room s j x).1 j = some (ls1 j) := lOf_of htl1 ho1
         have hN := DoW_yes hnb hj (by simpa using hc33)
         have hM := lOf_inv hok2 hlo
         have hlen := hM.len
         obtain ⟨o, hof⟩ := hM.o
         have ho9 := recValid_ids (hM.valid hof)
         have hro : (rfind (ls1 j) (j : Int)).1 = o := by rw [rfind_fst, hof]; rfl
         have hT := (hA1.tb j q ho1).mono hs1
         obtain ⟨c1, hcl1⟩ := get_some (l := (doW room s j x).1.cells) (k := j) (by omega)
         rw [cellW_up hlo hcl1] at hN
         have hDc : h cr1 ≠ none ∨ w0.heap.size ≤ cr1 := (hE1.weaken hn1).some (by rw [hA1.cc]; simp)
         refine m_tk 0 false rfl rfl (by kernel_rfl) (v_move rfl) rfl rfl ?_
         refine m_tk 1 false rfl rfl (by kernel_rfl) (v_nilCheck rfl rfl) rfl rfl ?_
         refine m_tk 2 false rfl rfl (by kernel_rfl) (by first | exact v_fieldAddr ty125 fo125_2 ty71 rfl | exact v_fieldAddr_box ty125 fo125_2 ty71 rfl) rfl rfl ?_
         refine m_tk 3 true rfl rfl (by kernel_rfl) (by first | exact v_load ty71 rfl rfl (by first | rfl | assumption) (by first | assumption | exact map_get (by assumption) | rfl) rfl | exact v_load_box ty71 rfl rfl hww1 (by rfl)) rfl rfl ?_
         refine m_takel 4 rfl rfl (by kernel_rfl) (by kernel_rfl) (by kernel_rfl) (fun _ _ _ _ h => h) (vl_fieldAddr ty87 fo87_1 ty3 rfl) rfl rfl ?_
         refine m_tk 5 true rfl rfl (by kernel_rfl) (v_loadl ty3 rfl rfl rfl rfl) rfl rfl ?_
         refine m_tk 6 false rfl rfl (by kernel_rfl) (v_move rfl) rfl rfl ?_
         refine m_tk 7 false rfl rfl (by kernel_rfl) (v_nilCheck rfl rfl) rfl rfl ?_
         refine m_tk 8 false rfl rfl (by kernel_rfl) (by first | exact v_fieldAddr ty125 fo125_2 ty71 rfl | exact v_fieldAddr_box ty125 fo125_2 ty71 rfl) rfl rfl ?_
         refine m_tk 9 true rfl rfl (by kernel_rfl) (by first | exact v_load ty71 rfl rfl (by first | rfl | assumption) (by first | assumption | exact map_get (by assumption) | rfl) rfl | exact v_load_box ty71 rfl rfl hww1 (by rfl)) rfl rfl ?_
         refine m_takel 10 rfl rfl (by kernel_rfl) (by kernel_rfl) (by kernel_rfl) (fun _ _ _ _ h => h) (vl_fieldAddr ty87 fo87_1 ty3 rfl) rfl rfl ?_
         refine m_tk 11 true rfl rfl (by kernel_rfl) (v_loadl ty3 rfl rfl rfl rfl) rfl rfl ?_
         refine m_tk 12 false rfl rfl (by kernel_rfl) (v_indexAddr ty71 ty3 rfl rfl hVc1 hj (map_get hcl1) rfl) rfl rfl ?_
         refine m_tk 13 true rfl rfl (by kernel_rfl) (by first | exact v_load ty3 rfl rfl hVc1 (map_get hcl1) rfl | exact v_load_box ty3 rfl rfl (by assumption) rfl) rfl rfl ?_
         refine m_tk 14 false rfl rfl (by kernel_rfl) (v_move rfl) rfl rfl ?_
         refine m_one 15 (by kernel_rfl) rfl rfl ?_
         refine sm_callp rfl rfl rfl (mself_ok q (rs1 j) (j : Int) room (ls1 j) _ hT (by omega) hM.b) ?_
         rintro _ rfl
         refine m_tk 16 false rfl rfl (by kernel_rfl) (v_field ty46 fo46_1 ty3 rfl rfl rfl) rfl rfl ?_
         refine m_tk 17 false rfl rfl (by kernel_rfl) (v_add rfl rfl (by rw [hro]; omega)) rfl rfl ?_
         refine m_tk 18 false rfl rfl (by kernel_rfl) (v_max rfl rfl) rfl rfl ?_
         refine m_tk 19 false rfl rfl (by kernel_rfl) (v_indexAddr ty71 ty3 rfl rfl hVc1 hj (map_get hcl1) rfl) rfl rfl ?_
         refine m_one 20 (by kernel_rfl) rfl rfl ?_
         refine sm_any rfl (s_store_row (k := j) (off := 0) (old := .int .i64 c1) (new := .int .i64 (max c1 ((rfind (ls1 j) (j : Int)).1.inc + 1))) ty3 rfl rfl hcc1 (by rw [Nat.zero_add]; exact map_get hcl1) rfl rfl rfl rfl hDc ?_)
         rw [show (0 + j : Nat) = j from Nat.zero_add j, set_map_c]
         refine m_done (by kernel_rfl) ?_
         refine g_next hK15 ?_
         first | refine g_keep [] [] [] keep_nil lkeep_nil keep_nil rfl ?_ | refine g_keep [] [] [] rfl rfl rfl rfl ?_
         refine g_seq (fun K18 hK18 => ?_)
         refine g_region ?_
         refine g_step rfl (s_val (v_assign rfl) rfl rfl ?_)
         refine g_nil ?_
         refine g_next hK18 ?_
         refine g_ret ?_
         refine g_end1 (.inl rfl) Try.results42 (.tmp rfl) ((cr1, (.row 1 (((doW room s j x).1.cells.set j (max c1 ((rfind (ls1 j) (j : Int)).1.inc + 1))).map (.int .i64)))) :: effs1) (ASub.refl _) (AHeap.sub_refl _) (((hE1.weaken hn1).write (b := cr1) (.row 1 (((doW room s j x).1.cells.set j (max c1 ((rfind (ls1 j) (j : Int)).1.inc + 1))).map (.int .i64))) (.inl (by rw [hA1.cc]; simp))).ok hG) ⟨by rw [hN]; rfl, _, ((hE1.weaken hn1).write (b := cr1) (.row 1 (((doW room s j x).1.cells.set j (max c1 ((rfind (ls1 j) (j : Int)).1.inc + 1))).map (.int .i64))) (.inl (by rw [hA1.cc]; simp))), by rw [hN]; exact ⟨tr1, cr1, mr1, pt1, rs1, ls1, hA1.cell j _, htl1⟩⟩
        · exfalso; (try simp only [NM] at hc47); first | exact hc47 rfl | (simp at hc47; done)

theorem bnewE_ok (n room : Int) (G : AHeap) (hb : n < 1 ∨ 32 < n ∨ room < 1 ∨ 48 < room) : PCalls Try.prog 41 [.int .i64 n, .int .i64 room] G (fun v => v = .tup [.nilp, .int .i64 5]) := by
 refine LCalls.intro 28 fi41 rfl Try.ntmps41 rfl (fun _ h => h.elim) (fun H hH w0 hw0 => ?_)
 refine g_seq (fun K0 hK0 => ?_)
 refine g_region ?_
 refine g_step rfl (s_val (v_assign rfl) rfl rfl ?_)
 refine g_step rfl (s_val (v_assign rfl) rfl rfl ?_)
 refine g_nil ?_
 refine g_next hK0 ?_
 refine g_seq (fun K1 hK1 => ?_)
 refine g_seq (fun K2 hK2 => ?_)
 refine g_region ?_
 refine g_step rfl (s_val (v_move rfl) rfl rfl ?_)
 refine g_step rfl (s_val (v_lss rfl rfl) rfl rfl ?_)
 refine g_step rfl (s_val (v_move rfl) rfl rfl ?_)
 refine g_split 8 rfl (fun hg8 => ?_) (fun hg8 => ?_)
 ·
  try simp only [NM] at hg8
  refine g_step_no (j := 2) (t := 8) rfl rfl rfl rfl rfl rfl rfl ?_
  refine g_step_no (j := 2) (t := 8) rfl rfl rfl rfl rfl rfl rfl ?_
  refine g_step rfl (s_val (v_pick_t rfl rfl) rfl rfl ?_)
  refine g_step rfl (s_val (v_move rfl) rfl rfl ?_)
  refine g_step_no (j := 6) (t := 12) rfl rfl rfl rfl rfl rfl rfl ?_
  refine g_step_no (j := 6) (t := 12) rfl rfl rfl rfl rfl rfl rfl ?_
  refine g_step rfl (s_val (v_pick_t rfl rfl) rfl rfl ?_)
  refine g_step rfl (s_val (v_move rfl) rfl rfl ?_)
  refine g_step_no (j := 10) (t := 16) rfl rfl rfl rfl rfl rfl rfl ?_
  refine g_step_no (j := 10) (t := 16) rfl rfl rfl rfl rfl rfl rfl ?_
  refine g_step rfl (s_val (v_pick_t rfl rfl) rfl rfl ?_)
  refine g_nil ?_
  refine g_next hK2 ?_
  refine g_cond rfl (fun _ => ?_) (fun h => by cases h)
  refine g_seq (fun K3 hK3 => ?_)
  refine g_region ?_
  refine g_step rfl (s_val (v_assign rfl) rfl rfl ?_)
  refine g_step rfl (s_val (v_assign rfl) rfl rfl ?_)
  refine g_nil ?_
  refine g_next hK3 ?_
  refine g_ret ?_
  refine g_then_ret ?_
  refine g_end2 (.inl rfl) Try.results41 (.tmp rfl) (.tmp rfl) [] (ASub.refl _) (AHeap.sub_refl _) (fun p hp => by cases hp) ⟨rfl, ?_⟩
  rfl
 ·
  try simp only [NM] at hg8
  refine g_step_yes (j := 2) (t := 8) rfl rfl rfl rfl (s_val (v_move rfl) rfl rfl ?_)
  refine g_step_yes (j := 2) (t := 8) rfl rfl rfl rfl (s_val (v_gtr rfl rfl) rfl rfl ?_)
  refine g_step rfl (s_val (v_pick_f rfl rfl) rfl rfl ?_)
  refine g_step rfl (s_val (v_move rfl) rfl rfl ?_)
  refine g_split 12 rfl (fun hg12 => ?_) (fun hg12 => ?_)
  ·
   try simp only [NM] at hg12
   refine g_step_no (j := 6) (t := 12) rfl rfl rfl rfl rfl rfl rfl ?_
   refine g_step_no (j := 6) (t := 12) rfl rfl rfl rfl rfl rfl rfl ?_
   refine g_step rfl (s_val (v_pick_t rfl rfl) rfl rfl ?_)
   refine g_step rfl (s_val (v_move rfl) rfl rfl ?_)
   refine g_step_no (j := 10) (t := 16) rfl rfl rfl rfl rfl rfl rfl ?_
   refine g_step_no (j := 10) (t := 16) rfl rfl rfl rfl rfl rfl rfl ?_
   refine g_step rfl (s_val (v_pick_t rfl rfl) rfl rfl ?_)
   refine g_nil ?_
   refine g_next hK2 ?_
   refine g_cond rfl (fun _ => ?_) (fun h => by cases h)
   refine g_seq (fun K4 hK4 => ?_)
   refine g_region ?_
   refine g_step rfl (s_val (v_assign rfl) rfl rfl ?_)
   refine g_step rfl (s_val (v_assign rfl) rfl rfl ?_)
   refine g_nil ?_
   refine g_next hK4 ?_
   refine g_ret ?_
   refine g_then_ret ?_
   refine g_end2 (.inl rfl) Try.results41 (.tmp rfl) (.tmp rfl) [] (ASub.refl _) (AHeap.sub_refl _) (fun p hp => by cases hp) ⟨rfl, ?_⟩
   rfl
  ·
   try simp only [NM] at hg12
   refine g_step_yes (j := 6) (t := 12) rfl rfl rfl rfl (s_val (v_move rfl) rfl rfl ?_)
   refine g_step_yes (j := 6) (t := 12) rfl rfl rfl rfl (s_val (v_lss rfl rfl) rfl rfl ?_)
   refine g_step rfl (s_val (v_pick_f rfl rfl) rfl rfl ?_)
   refine g_step rfl (s_val (v_move rfl) rfl rfl ?_)
   refine g_split 16 rfl (fun hg16 => ?_) (fun hg16 => ?_)
   ·
    try simp only [NM] at hg16
    refine g_step_no (j := 10) (t := 16) rfl rfl rfl rfl rfl rfl rfl ?_
    refine g_step_no (j := 10) (t := 16) rfl rfl rfl rfl rfl rfl rfl ?_
    refine g_step rfl (s_val (v_pick_t rfl rfl) rfl rfl ?_)
    refine g_nil ?_
    refine g_next hK2 ?_
    refine g_cond rfl (fun _ => ?_) (fun h => by cases h)
    refine g_seq (fun K5 hK5 => ?_)
    refine g_region ?_
    refine g_step rfl (s_val (v_assign rfl) rfl rfl ?_)
    refine g_step rfl (s_val (v_assign rfl) rfl rfl ?_)
    refine g_nil ?_
    refine g_next hK5 ?_
    refine g_ret ?_
    refine g_then_ret ?_
    refine g_end2 (.inl rfl) Try.results41 (.tmp rfl) (.tmp rfl) [] (ASub.refl _) (AHeap.sub_refl _) (fun p hp => by cases hp) ⟨rfl, ?_⟩
    rfl
   ·
    try simp only [NM] at hg16
    refine g_step_yes (j := 10) (t := 16) rfl rfl rfl rfl (s_val (v_move rfl) rfl rfl ?_)
    refine g_step_yes (j := 10) (t := 16) rfl rfl rfl rfl (s_val (v_gtr rfl rfl) rfl rfl ?_)
    refine g_step rfl (s_val (v_pick_f rfl rfl) rfl rfl ?_)
    refine g_nil ?_
    refine g_next hK2 ?_
    refine g_cond rfl (fun hc19 => ?_) (fun hc19 => ?_)
    ·
     try simp only [NM] at hc19
     refine g_seq (fun K6 hK6 => ?_)
     refine g_region ?_
     refine g_step rfl (s_val (v_assign rfl) rfl rfl ?_)
     refine g_step rfl (s_val (v_assign rfl) rfl rfl ?_)
     refine g_nil ?_
     refine g_next hK6 ?_
     refine g_ret ?_
     refine g_then_ret ?_
     refine g_end2 (.inl rfl) Try.results41 (.tmp rfl) (.tmp rfl) [] (ASub.refl _) (AHeap.sub_refl _) (fun p hp => by cases hp) ⟨rfl, ?_⟩
     rfl
    · exfalso; (try simp only [NM] at hc19); simp_all; omega

theorem bnew_ok (n : Nat) (room : Int) (G : AHeap) (hn : 1 ≤ n) (hn2 : n ≤ 32) (h1 : 1 ≤ room) (h48 : room ≤ 48) : LCalls Try.prog 41 [.int .i64 (n : Int), .int .i64 room] G noD (fun k v effs => ∃ d h', v = .tup [.box d 0, .int .i64 0] ∧ EffTo noH h' k effs ∧ WIs lmRow h' d room ⟨List.replicate n none, List.replicate n 0, []⟩) := by
 refine LCalls.intro 28 fi41 rfl Try.ntmps41 rfl (fun _ h => h.elim) (fun H hH w0 hw0 => ?_)
 refine g_seq (fun K0 hK0 => ?_)
 refine g_region ?_
 refine g_step rfl (s_val (v_assign rfl) rfl rfl ?_)
 refine g_step rfl (s_val (v_assign rfl) rfl rfl ?_)
 refine g_nil ?_
 refine g_next hK0 ?_
 refine g_seq (fun K1 hK1 => ?_)
 refine g_seq (fun K2 hK2 => ?_)
 refine g_region ?_
 refine g_step rfl (s_val (v_move rfl) rfl rfl ?_)
 refine g_step rfl (s_val (v_lss rfl rfl) rfl rfl ?_)
 refine g_step rfl (s_val (v_move rfl) rfl rfl ?_)
 refine g_split 8 rfl (fun hg8 => ?_) (fun hg8 => ?_)
 · exfalso; (try simp only [NM] at hg8); omega
 ·
  try simp only [NM] at hg8
  refine g_step_yes (j := 2) (t := 8) rfl rfl rfl rfl (s_val (v_move rfl) rfl rfl ?_)
  refine g_step_yes (j := 2) (t := 8) rfl rfl rfl rfl (s_val (v_gtr rfl rfl) rfl rfl ?_)
  refine g_step rfl (s_val (v_pick_f rfl rfl) rfl rfl ?_)
  refine g_step rfl (s_val (v_move rfl) rfl rfl ?_)
  refine g_split 12 rfl (fun hg12 => ?_) (fun hg12 => ?_)
  · exfalso; (try simp only [NM] at hg12); omega
  ·
   try simp only [NM] at hg12
   refine g_step_yes (j := 6) (t := 12) rfl rfl rfl rfl (s_val (v_move rfl) rfl rfl ?_)
   refine g_step_yes (j := 6) (t := 12) rfl rfl rfl rfl (s_val (v_lss rfl rfl) rfl rfl ?_)
   refine g_step rfl (s_val (v_pick_f rfl rfl) rfl rfl ?_)
   refine g_step rfl (s_val (v_move rfl) rfl rfl ?_)
   refine g_split 16 rfl (fun hg16 => ?_) (fun hg16 => ?_)
   · exfalso; (try simp only [NM] at hg16); omega
   ·
    try simp only [NM] at hg16
    refine g_step_yes (j := 10) (t := 16) rfl rfl rfl rfl (s_val (v_move rfl) rfl rfl ?_)
    refine g_step_yes (j := 10) (t := 16) rfl rfl rfl rfl (s_val (v_gtr rfl rfl) rfl rfl ?_)
    refine g_step rfl (s_val (v_pick_f rfl rfl) rfl rfl ?_)
    refine g_nil ?_
    refine g_next hK2 ?_
    refine g_cond rfl (fun hc19 => ?_) (fun hc19 => ?_)
    · exfalso; (try simp only [NM] at hc19); omega
    ·
     try simp only [NM] at hc19
     refine g_skip ?_
     refine g_next hK1 ?_
     refine g_seq (fun K3 hK3 => ?_)
     refine g_draw (n := 10) (fun j => !([2, 4, 5] : List Nat).contains j) rfl rfl ?_
     refine m_tk 0 false rfl rfl (by kernel_rfl) (v_move rfl) rfl rfl ?_
     refine m_tk 1 false rfl rfl (by kernel_rfl) (v_move rfl) rfl rfl ?_
     refine m_tk 3 false rfl rfl (by kernel_rfl) (v_move rfl) rfl rfl ?_
     refine m_all (is := [2, 4, 5]) (by kernel_rfl) rfl (fun _ _ _ => trivial) (fun i hi => ?_)
     rcases (by simpa using hi : i = 2 ∨ i = 4 ∨ i = 5) with rfl | rfl | rfl
     ·
      refine ⟨_, rfl, .inl ⟨rfl, ?_⟩⟩
      refine sm_any rfl (s_makeO (n := n) (za := .nilp) ty122 ty48 rfl rfl rfl rfl rfl rfl (by omega) (by omega) ?_)
      intro r22 hr22 hw22
      refine m_all (is := [4, 5]) (by kernel_rfl) rfl (fun _ _ _ => trivial) (fun i hi => ?_)
      rcases (by simpa using hi : i = 4 ∨ i = 5) with rfl | rfl
      ·
       refine ⟨_, rfl, .inl ⟨rfl, ?_⟩⟩
       refine sm_any rfl (s_makeO (n := n) (za := (.int .i64 0)) ty71 ty3 rfl rfl rfl rfl rfl rfl (by omega) (by omega) ?_)
       intro r24 hr24 hw24
       refine m_one 5 (by kernel_rfl) rfl rfl ?_
       refine sm_any rfl (s_makeMap .i64 rfl (fun r25 hr25 hw25 => ?_))
       refine m_tk 6 false rfl rfl (by kernel_rfl) (v_build (vs := [(0, _), (1, _), (2, _), (3, _)]) (zs := [(.int .i64 0), .nil0, .nil0, .nilm]) (cells := [_, _, _, _]) ty125 pl125 rfl rfl rfl) rfl rfl ?_
       refine m_one 7 (by kernel_rfl) rfl rfl ?_
       refine sm_box rfl rfl rfl rfl ?_
       refine g_expose 27 rfl rfl (fun r27 hr27 hw27 => ?_)
       refine m_tk 8 false rfl rfl (by kernel_rfl) (v_assign rfl) rfl rfl ?_
       refine m_tk 9 false rfl rfl (by kernel_rfl) (v_assign rfl) rfl rfl ?_
       refine m_done (by kernel_rfl) ?_
       refine g_next hK3 ?_
       first | refine g_keep [4, 5] [] [] (keep_cons rfl (keep_cons rfl keep_nil)) lkeep_nil keep_nil rfl ?_ | refine g_keep [4, 5] [] [] rfl rfl rfl rfl ?_
       refine g_ret ?_
       have d1 : r22 ≠ r24 := by first | exact (set_none hr24).1 | exact (set_none hr22).1.symm | exact (set_none (set_none hr24).2).1 | exact (set_none (set_none hr22).2).1.symm | exact (set_none (set_none (set_none hr24).2).2).1
       have d3 : r22 ≠ r25 := by first | exact (set_none hr25).1 | exact (set_none hr22).1.symm | exact (set_none (set_none hr25).2).1 | exact (set_none (set_none hr22).2).1.symm | exact (set_none (set_none (set_none hr25).2).2).1
       have d6 : r22 ≠ r27 := by first | exact (set_none hr27).1 | exact (set_none hr22).1.symm | exact (set_none (set_none hr27).2).1 | exact (set_none (set_none hr22).2).1.symm | exact (set_none (set_none (set_none hr27).2).2).1
       have d2 : r24 ≠ r25 := by first | exact (set_none hr25).1 | exact (set_none hr24).1.symm | exact (set_none (set_none hr25).2).1 | exact (set_none (set_none hr24).2).1.symm | exact (set_none (set_none (set_none hr25).2).2).1
       have d5 : r24 ≠ r27 := by first | exact (set_none hr27).1 | exact (set_none hr24).1.symm | exact (set_none (set_none hr27).2).1 | exact (set_none (set_none hr24).2).1.symm | exact (set_none (set_none (set_none hr27).2).2).1
       have d4 : r25 ≠ r27 := by first | exact (set_none hr27).1 | exact (set_none hr25).1.symm | exact (set_none (set_none hr27).2).1 | exact (set_none (set_none hr25).2).1.symm | exact (set_none (set_none (set_none hr27).2).2).1
       obtain ⟨h', hE, hW⟩ := newW (n := n) (room := room) hw22 hw24 hw25 hw27 d1 d3 d6 d2 d5 d4
       refine g_end2 (.inl rfl) Try.results41 (.tmp rfl) (.tmp rfl) [(r27, .box (wdA room r22 r24 r25 n)), (r25, lmRow []), (r24, .row 1 (List.replicate n (.int .i64 0))), (r22, .row 1 (List.replicate n .nilp))] (ASub.refl _) (by show AHeap.sub (AHeap.set (AHeap.set (AHeap.set (AHeap.set H r22 _) r24 _) r25 _) r27 _) _; first | exact AHeap.sub_refl _ | (rw [hset_comm d1]; exact AHeap.sub_refl _) | (rw [hset_comm d2]; exact AHeap.sub_refl _) | (rw [hset_comm d2, hset_comm d3]; exact AHeap.sub_refl _) | (rw [hset_comm d1, hset_comm d3]; exact AHeap.sub_refl _) | (rw [hset_comm d1, hset_comm d3, hset_comm d2]; exact AHeap.sub_refl _)) (fun q hq => .inr ((hE.dom q hq).elim (fun h9 => absurd rfl h9) id)) ⟨r27, h', rfl, hE, hW⟩
      ·
       refine ⟨_, rfl, .inl ⟨rfl, ?_⟩⟩
       refine sm_any rfl (s_makeMap .i64 rfl (fun r25 hr25 hw25 => ?_))
       refine m_one 4 (by kernel_rfl) rfl rfl ?_
       refine sm_any rfl (s_makeO (n := n) (za := (.int .i64 0)) ty71 ty3 rfl rfl rfl rfl rfl rfl (by omega) (by omega) ?_)
       intro r24 hr24 hw24
       refine m_tk 6 false rfl rfl (by kernel_rfl) (v_build (vs := [(0, _), (1, _), (2, _), (3, _)]) (zs := [(.int .i64 0), .nil0, .nil0, .nilm]) (cells := [_, _, _, _]) ty125 pl125 rfl rfl rfl) rfl rfl ?_
       refine m_one 7 (by kernel_rfl) rfl rfl ?_
       refine sm_box rfl rfl rfl rfl ?_
       refine g_expose 27 rfl rfl (fun r27 hr27 hw27 => ?_)
       refine m_tk 8 false rfl rfl (by kernel_rfl) (v_assign rfl) rfl rfl ?_
       refine m_tk 9 false rfl rfl (by kernel_rfl) (v_assign rfl) rfl rfl ?_
       refine m_done (by kernel_rfl) ?_
       refine g_next hK3 ?_
       first | refine g_keep [4, 5] [] [] (keep_cons rfl (keep_cons rfl keep_nil)) lkeep_nil keep_nil rfl ?_ | refine g_keep [4, 5] [] [] rfl rfl rfl rfl ?_
       refine g_ret ?_
       have d1 : r22 ≠ r24 := by first | exact (set_none hr24).1 | exact (set_none hr22).1.symm | exact (set_none (set_none hr24).2).1 | exact (set_none (set_none hr22).2).1.symm | exact (set_none (set_none (set_none hr24).2).2).1
       have d3 : r22 ≠ r25 := by first | exact (set_none hr25).1 | exact (set_none hr22).1.symm | exact (set_none (set_none hr25).2).1 | exact (set_none (set_none hr22).2).1.symm | exact (set_none (set_none (set_none hr25).2).2).1
       have d6 : r22 ≠ r27 := by first | exact (set_none hr27).1 | exact (set_none hr22).1.symm | exact (set_none (set_none hr27).2).1 | exact (set_none (set_none hr22).2).1.symm | exact (set_none (set_none (set_none hr27).2).2).1
       have d2 : r24 ≠ r25 := by first | exact (set_none hr25).1 | exact (set_none hr24).1.symm | exact (set_none (set_none hr25).2).1 | exact (set_none (set_none hr24).2).1.symm | exact (set_none (set_none (set_none hr25).2).2).1
       have d5 : r24 ≠ r27 := by first | exact (set_none hr27).1 | exact (set_none hr24).1.symm | exact (set_none (set_none hr27).2).1 | exact (set_none (set_none hr24).2).1.symm | exact (set_none (set_none (set_none hr27).2).2).1
       have d4 : r25 ≠ r27 := by first | exact (set_none hr27).1 | exact (set_none hr25).1.symm | exact (set_none (set_none hr27).2).1 | exact (set_none (set_none hr25).2).1.symm | exact (set_none (set_none (set_none hr27).2).2).1
       obtain ⟨h', hE, hW⟩ := newW (n := n) (room := room) hw22 hw24 hw25 hw27 d1 d3 d6 d2 d5 d4
       refine g_end2 (.inl rfl) Try.results41 (.tmp rfl) (.tmp rfl) [(r27, .box (wdA room r22 r24 r25 n)), (r25, lmRow []), (r24, .row 1 (List.replicate n (.int .i64 0))), (r22, .row 1 (List.replicate n .nilp))] (ASub.refl _) (by show AHeap.sub (AHeap.set (AHeap.set (AHeap.set (AHeap.set H r22 _) r24 _) r25 _) r27 _) _; first | exact AHeap.sub_refl _ | (rw [hset_comm d1]; exact AHeap.sub_refl _) | (rw [hset_comm d2]; exact AHeap.sub_refl _) | (rw [hset_comm d2, hset_comm d3]; exact AHeap.sub_refl _) | (rw [hset_comm d1, hset_comm d3]; exact AHeap.sub_refl _) | (rw [hset_comm d1, hset_comm d3, hset_comm d2]; exact AHeap.sub_refl _)) (fun q hq => .inr ((hE.dom q hq).elim (fun h9 => absurd rfl h9) id)) ⟨r27, h', rfl, hE, hW⟩
     ·
      refine ⟨_, rfl, .inl ⟨rfl, ?_⟩⟩
      refine sm_any rfl (s_makeO (n := n) (za := (.int .i64 0)) ty71 ty3 rfl rfl rfl rfl rfl rfl (by omega) (by omega) ?_)
      intro r24 hr24 hw24
      refine m_all (is := [2, 5]) (by kernel_rfl) rfl (fun _ _ _ => trivial) (fun i hi => ?_)
      rcases (by simpa using hi : i = 2 ∨ i = 5) with rfl | rfl
      ·
       refine ⟨_, rfl, .inl ⟨rfl, ?_⟩⟩
       refine sm_any rfl (s_makeO (n := n) (za := .nilp) ty122 ty48 rfl rfl rfl rfl rfl rfl (by omega) (by omega) ?_)
       intro r22 hr22 hw22
       refine m_one 5 (by kernel_rfl) rfl rfl ?_
       refine sm_any rfl (s_makeMap .i64 rfl (fun r25 hr25 hw25 => ?_))
       refine m_tk 6 false rfl rfl (by kernel_rfl) (v_build (vs := [(0, _), (1, _), (2, _), (3, _)]) (zs := [(.int .i64 0), .nil0, .nil0, .nilm]) (cells := [_, _, _, _]) ty125 pl125 rfl rfl rfl) rfl rfl ?_
       refine m_one 7 (by kernel_rfl) rfl rfl ?_
       refine sm_box rfl rfl rfl rfl ?_
       refine g_expose 27 rfl rfl (fun r27 hr27 hw27 => ?_)
       refine m_tk 8 false rfl rfl (by kernel_rfl) (v_assign rfl) rfl rfl ?_
       refine m_tk 9 false rfl rfl (by kernel_rfl) (v_assign rfl) rfl rfl ?_
       refine m_done (by kernel_rfl) ?_
       refine g_next hK3 ?_
       first | refine g_keep [4, 5] [] [] (keep_cons rfl (keep_cons rfl keep_nil)) lkeep_nil keep_nil rfl ?_ | refine g_keep [4, 5] [] [] rfl rfl rfl rfl ?_
       refine g_ret ?_
       have d1 : r22 ≠ r24 := by first | exact (set_none hr24).1 | exact (set_none hr22).1.symm | exact (set_none (set_none hr24).2).1 | exact (set_none (set_none hr22).2).1.symm | exact (set_none (set_none (set_none hr24).2).2).1
       have d3 : r22 ≠ r25 := by first | exact (set_none hr25).1 | exact (set_none hr22).1.symm | exact (set_none (set_none hr25).2).1 | exact (set_none (set_none hr22).2).1.symm | exact (set_none (set_none (set_none hr25).2).2).1
       have d6 : r22 ≠ r27 := by first | exact (set_none hr27).1 | exact (set_none hr22).1.symm | exact (set_none (set_none hr27).2).1 | exact (set_none (set_none hr22).2).1.symm | exact (set_none (set_none (set_none hr27).2).2).1
       have d2 : r24 ≠ r25 := by first | exact (set_none hr25).1 | exact (set_none hr24).1.symm | exact (set_none (set_none hr25).2).1 | exact (set_none (set_none hr24).2).1.symm | exact (set_none (set_none (set_none hr25).2).2).1
       have d5 : r24 ≠ r27 := by first | exact (set_none hr27).1 | exact (set_none hr24).1.symm | exact (set_none (set_none hr27).2).1 | exact (set_none (set_none hr24).2).1.symm | exact (set_none (set_none (set_none hr27).2).2).1
       have d4 : r25 ≠ r27 := by first | exact (set_none hr27).1 | exact (set_none hr25).1.symm | exact (set_none (set_none hr27).2).1 | exact (set_none (set_none hr25).2).1.symm | exact (set_none (set_none (set_none hr27).2).2).1
       obtain ⟨h', hE, hW⟩ := newW (n := n) (room := room) hw22 hw24 hw25 hw27 d1 d3 d6 d2 d5 d4
       refine g_end2 (.inl rfl) Try.results41 (.tmp rfl) (.tmp rfl) [(r27, .box (wdA room r22 r24 r25 n)), (r25, lmRow []), (r24, .row 1 (List.replicate n (.int .i64 0))), (r22, .row 1 (List.replicate n .nilp))] (ASub.refl _) (by show AHeap.sub (AHeap.set (AHeap.set (AHeap.set (AHeap.set H r22 _) r24 _) r25 _) r27 _) _; first | exact AHeap.sub_refl _ | (rw [hset_comm d1]; exact AHeap.sub_refl _) | (rw [hset_comm d2]; exact AHeap.sub_refl _) | (rw [hset_comm d2, hset_comm d3]; exact AHeap.sub_refl _) | (rw [hset_comm d1, hset_comm d3]; exact AHeap.sub_refl _) | (rw [hset_comm d1, hset_comm d3, hset_comm d2]; exact AHeap.sub_refl _)) (fun q hq => .inr ((hE.dom q hq).elim (fun h9 => absurd rfl h9) id)) ⟨r27, h', rfl, hE, hW⟩
      ·
       refine ⟨_, rfl, .inl ⟨rfl, ?_⟩⟩
       refine sm_any rfl (s_makeMap .i64 rfl (fun r25 hr25 hw25 => ?_))
       refine m_one 2 (by kernel_rfl) rfl rfl ?_
       refine sm_any rfl (s_makeO (n := n) (za := .nilp) ty122 ty48 rfl rfl rfl rfl rfl rfl (by omega) (by omega) ?_)
       intro r22 hr22 hw22
       refine m_tk 6 false rfl rfl (by kernel_rfl) (v_build (vs := [(0, _), (1, _), (2, _), (3, _)]) (zs := [(.int .i64 0), .nil0, .nil0, .nilm]) (cells := [_, _, _, _]) ty125 pl125 rfl rfl rfl) rfl rfl ?_
       refine m_one 7 (by kernel_rfl) rfl rfl ?_
       refine sm_box rfl rfl rfl rfl ?_
       refine g_expose 27 rfl rfl (fun r27 hr27 hw27 => ?_)
       refine m_tk 8 false rfl rfl (by kernel_rfl) (v_assign rfl) rfl rfl ?_
       refine m_tk 9 false rfl rfl (by kernel_rfl) (v_assign rfl) rfl rfl ?_
       refine m_done (by kernel_rfl) ?_
       refine g_next hK3 ?_
       first | refine g_keep [4, 5] [] [] (keep_cons rfl (keep_cons rfl keep_nil)) lkeep_nil keep_nil rfl ?_ | refine g_keep [4, 5] [] [] rfl rfl rfl rfl ?_
       refine g_ret ?_
       have d1 : r22 ≠ r24 := by first | exact (set_none hr24).1 | exact (set_none hr22).1.symm | exact (set_none (set_none hr24).2).1 | exact (set_none (set_none hr22).2).1.symm | exact (set_none (set_none (set_none hr24).2).2).1
       have d3 : r22 ≠ r25 := by first | exact (set_none hr25).1 | exact (set_none hr22).1.symm | exact (set_none (set_none hr25).2).1 | exact (set_none (set_none hr22).2).1.symm | exact (set_none (set_none (set_none hr25).2).2).1
       have d6 : r22 ≠ r27 := by first | exact (set_none hr27).1 | exact (set_none hr22).1.symm | exact (set_none (set_none hr27).2).1 | exact (set_none (set_none hr22).2).1.symm | exact (set_none (set_none (set_none hr27).2).2).1
       have d2 : r24 ≠ r25 := by first | exact (set_none hr25).1 | exact (set_none hr24).1.symm | exact (set_none (set_none hr25).2).1 | exact (set_none (set_none hr24).2).1.symm | exact (set_none (set_none (set_none hr25).2).2).1
       have d5 : r24 ≠ r27 := by first | exact (set_none hr27).1 | exact (set_none hr24).1.symm | exact (set_none (set_none hr27).2).1 | exact (set_none (set_none hr24).2).1.symm | exact (set_none (set_none (set_none hr27).2).2).1
       have d4 : r25 ≠ r27 := by first | exact (set_none hr27).1 | exact (set_none hr25).1.symm | exact (set_none (set_none hr27).2).1 | exact (set_none (set_none hr25).2).1.symm | exact (set_none (set_none (set_none hr27).2).2).1
       obtain ⟨h', hE, hW⟩ := newW (n := n) (room := room) hw22 hw24 hw25 hw27 d1 d3 d6 d2 d5 d4
       refine g_end2 (.inl rfl) Try.results41 (.tmp rfl) (.tmp rfl) [(r27, .box (wdA room r22 r24 r25 n)), (r25, lmRow []), (r24, .row 1 (List.replicate n (.int .i64 0))), (r22, .row 1 (List.replicate n .nilp))] (ASub.refl _) (by show AHeap.sub (AHeap.set (AHeap.set (AHeap.set (AHeap.set H r22 _) r24 _) r25 _) r27 _) _; first | exact AHeap.sub_refl _ | (rw [hset_comm d1]; exact AHeap.sub_refl _) | (rw [hset_comm d2]; exact AHeap.sub_refl _) | (rw [hset_comm d2, hset_comm d3]; exact AHeap.sub_refl _) | (rw [hset_comm d1, hset_comm d3]; exact AHeap.sub_refl _) | (rw [hset_comm d1, hset_comm d3, hset_comm d2]; exact AHeap.sub_refl _)) (fun q hq => .inr ((hE.dom q hq).elim (fun h9 => absurd rfl h9) id)) ⟨r27, h', rfl, hE, hW⟩
     ·
      refine ⟨_, rfl, .inl ⟨rfl, ?_⟩⟩
      refine sm_any rfl (s_makeMap .i64 rfl (fun r25 hr25 hw25 => ?_))
      refine m_all (is := [2, 4]) (by kernel_rfl) rfl (fun _ _ _ => trivial) (fun i hi => ?_)
      rcases (by simpa using hi : i = 2 ∨ i = 4) with rfl | rfl
      ·
       refine ⟨_, rfl, .inl ⟨rfl, ?_⟩⟩
       refine sm_any rfl (s_makeO (n := n) (za := .nilp) ty122 ty48 rfl rfl rfl rfl rfl rfl (by omega) (by omega) ?_)
       intro r22 hr22 hw22
       refine m_one 4 (by kernel_rfl) rfl rfl ?_
       refine sm_any rfl (s_makeO (n := n) (za := (.int .i64 0)) ty71 ty3 rfl rfl rfl rfl rfl rfl (by omega) (by omega) ?_)
       intro r24 hr24 hw24
       refine m_tk 6 false rfl rfl (by kernel_rfl) (v_build (vs := [(0, _), (1, _), (2, _), (3, _)]) (zs := [(.int .i64 0), .nil0, .nil0, .nilm]) (cells := [_, _, _, _]) ty125 pl125 rfl rfl rfl) rfl rfl ?_
       refine m_one 7 (by kernel_rfl) rfl rfl ?_
       refine sm_box rfl rfl rfl rfl ?_
       refine g_expose 27 rfl rfl (fun r27 hr27 hw27 => ?_)
       refine m_tk 8 false rfl rfl (by kernel_rfl) (v_assign rfl) rfl rfl ?_
       refine m_tk 9 false rfl rfl (by kernel_rfl) (v_assign rfl) rfl rfl ?_
       refine m_done (by kernel_rfl) ?_
       refine g_next hK3 ?_
       first | refine g_keep [4, 5] [] [] (keep_cons rfl (keep_cons rfl keep_nil)) lkeep_nil keep_nil rfl ?_ | refine g_keep [4, 5] [] [] rfl rfl rfl rfl ?_
       refine g_ret ?_
       have d1 : r22 ≠ r24 := by first | exact (set_none hr24).1 | exact (set_none hr22).1.symm | exact (set_none (set_none hr24).2).1 | exact (set_none (set_none hr22).2).1.symm | exact (set_none (set_none (set_none hr24).2).2).1
       have d3 : r22 ≠ r25 := by first | exact (set_none hr25).1 | exact (set_none hr22).1.symm | exact (set_none (set_none hr25).2).1 | exact (set_none (set_none hr22).2).1.symm | exact (set_none (set_none (set_none hr25).2).2).1
       have d6 : r22 ≠ r27 := by first | exact (set_none hr27).1 | exact (set_none hr22).1.symm | exact (set_none (set_none hr27).2).1 | exact (set_none (set_none hr22).2).1.symm | exact (set_none (set_none (set_none hr27).2).2).1
       have d2 : r24 ≠ r25 := by first | exact (set_none hr25).1 | exact (set_none hr24).1.symm | exact (set_none (set_none hr25).2).1 | exact (set_none (set_none hr24).2).1.symm | exact (set_none (set_none (set_none hr25).2).2).1
       have d5 : r24 ≠ r27 := by first | exact (set_none hr27).1 | exact (set_none hr24).1.symm | exact (set_none (set_none hr27).2).1 | exact (set_none (set_none hr24).2).1.symm | exact (set_none (set_none (set_none hr27).2).2).1
       have d4 : r25 ≠ r27 := by first | exact (set_none hr27).1 | exact (set_none hr25).1.symm | exact (set_none (set_none hr27).2).1 | exact (set_none (set_none hr25).2).1.symm | exact (set_none (set_none (set_none hr27).2).2).1
       obtain ⟨h', hE, hW⟩ := newW (n := n) (room := room) hw22 hw24 hw25 hw27 d1 d3 d6 d2 d5 d4
       refine g_end2 (.inl rfl) Try.results41 (.tmp rfl) (.tmp rfl) [(r27, .box (wdA room r22 r24 r25 n)), (r25, lmRow []), (r24, .row 1 (List.replicate n (.int .i64 0))), (r22, .row 1 (List.replicate n .nilp))] (ASub.refl _) (by show AHeap.sub (AHeap.set (AHeap.set (AHeap.set (AHeap.set H r22 _) r24 _) r25 _) r27 _) _; first | exact AHeap.sub_refl _ | (rw [hset_comm d1]; exact AHeap.sub_refl _) | (rw [hset_comm d2]; exact AHeap.sub_refl _) | (rw [hset_comm d2, hset_comm d3]; exact AHeap.sub_refl _) | (rw [hset_comm d1, hset_comm d3]; exact AHeap.sub_refl _) | (rw [hset_comm d1, hset_comm d3, hset_comm d2]; exact AHeap.sub_refl _)) (fun q hq => .inr ((hE.dom q hq).elim (fun h9 => absurd rfl h9) id)) ⟨r27, h', rfl, hE, hW⟩
      ·
       refine ⟨_, rfl, .inl ⟨rfl, ?_⟩⟩
       refine sm_any rfl (s_makeO (n := n) (za := (.int .i64 0)) ty71 ty3 rfl rfl rfl rfl rfl rfl (by omega) (by omega) ?_)
       intro r24 hr24 hw24
       refine m_one 2 (by kernel_rfl) rfl rfl ?_
       refine sm_any rfl (s_makeO (n := n) (za := .nilp) ty122 ty48 rfl rfl rfl rfl rfl rfl (by omega) (by omega) ?_)
       intro r22 hr22 hw22
       refine m_tk 6 false rfl rfl (by kernel_rfl) (v_build (vs := [(0, _), (1, _), (2, _), (3, _)]) (zs := [(.int .i64 0), .nil0, .nil0, .nilm]) (cells := [_, _, _, _]) ty125 pl125 rfl rfl rfl) rfl rfl ?_
       refine m_one 7 (by kernel_rfl) rfl rfl ?_
       refine sm_box rfl rfl rfl rfl ?_
       refine g_expose 27 rfl rfl (fun r27 hr27 hw27 => ?_)
       refine m_tk 8 false rfl rfl (by kernel_rfl) (v_assign rfl) rfl rfl ?_
       refine m_tk 9 false rfl rfl (by kernel_rfl) (v_assign rfl) rfl rfl ?_
       refine m_done (by kernel_rfl) ?_
       refine g_next hK3 ?_
       first | refine g_keep [4, 5] [] [] (keep_cons rfl (keep_cons rfl keep_nil)) lkeep_nil keep_nil rfl ?_ | refine g_keep [4, 5] [] [] rfl rfl rfl rfl ?_
       refine g_ret ?_
       have d1 : r22 ≠ r24 := by first | exact (set_none hr24).1 | exact (set_none hr22).1.symm | exact (set_none (set_none hr24).2).1 | exact (set_none (set_none hr22).2).1.symm | exact (set_none (set_none (set_none hr24).2).2).1
       have d3 : r22 ≠ r25 := by first | exact (set_none hr25).1 | exact (set_none hr22).1.symm | exact (set_none (set_none hr25).2).1 | exact (set_none (set_none hr22).2).1.symm | exact (set_none (set_none (set_none hr25).2).2).1
       have d6 : r22 ≠ r27 := by first | exact (set_none hr27).1 | exact (set_none hr22).1.symm | exact (set_none (set_none hr27).2).1 | exact (set_none (set_none hr22).2).1.symm | exact (set_none (set_none (set_none hr27).2).2).1
       have d2 : r24 ≠ r25 := by first | exact (set_none hr25).1 | exact (set_none hr24).1.symm | exact (set_none (set_none hr25).2).1 | exact (set_none (set_none hr24).2).1.symm | exact (set_none (set_none (set_none hr25).2).2).1
       have d5 : r24 ≠ r27 := by first | exact (set_none hr27).1 | exact (set_none hr24).1.symm | exact (set_none (set_none hr27).2).1 | exact (set_none (set_none hr24).2).1.symm | exact (set_none (set_none (set_none hr27).2).2).1
       have d4 : r25 ≠ r27 := by first | exact (set_none hr27).1 | exact (set_none hr25).1.symm | exact (set_none (set_none hr27).2).1 | exact (set_none (set_none hr25).2).1.symm | exact (set_none (set_none (set_none hr27).2).2).1
       obtain ⟨h', hE, hW⟩ := newW (n := n) (room := room) hw22 hw24 hw25 hw27 d1 d3 d6 d2 d5 d4
       refine g_end2 (.inl rfl) Try.results41 (.tmp rfl) (.tmp rfl) [(r27, .box (wdA room r22 r24 r25 n)), (r25, lmRow []), (r24, .row 1 (List.replicate n (.int .i64 0))), (r22, .row 1 (List.replicate n .nilp))] (ASub.refl _) (by show AHeap.sub (AHeap.set (AHeap.set (AHeap.set (AHeap.set H r22 _) r24 _) r25 _) r27 _) _; first | exact AHeap.sub_refl _ | (rw [hset_comm d1]; exact AHeap.sub_refl _) | (rw [hset_comm d2]; exact AHeap.sub_refl _) | (rw [hset_comm d2, hset_comm d3]; exact AHeap.sub_refl _) | (rw [hset_comm d1, hset_comm d3]; exact AHeap.sub_refl _) | (rw [hset_comm d1, hset_comm d3, hset_comm d2]; exact AHeap.sub_refl _)) (fun q hq => .inr ((hE.dom q hq).elim (fun h9 => absurd rfl h9) id)) ⟨r27, h', rfl, hE, hW⟩

end Go.Proofs.Ytgipbhfblmblcaa

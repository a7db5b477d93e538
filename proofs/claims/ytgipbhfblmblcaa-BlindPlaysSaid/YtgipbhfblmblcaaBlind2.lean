import Derived.Test.YtgipbhfblmblcaaBlind
import Derived.Test.YtgipbhfblmblcaaPBlind5
set_option maxHeartbeats 8000000
set_option linter.unusedSimpArgs false
set_option linter.unusedVariables false
set_option maxRecDepth 100000
namespace Go.Proofs.Ytgipbhfblmblcaa
open Go Go.Proofs.Ytgipbhfblmblcaa.AM
theorem wsend_ok (h : AHeap) (w tr cr mr : Nat) (room : Int) (pt : List (Option Nat)) (rs : Nat → Nat) (ls : Nat → List Rc) (s : Wd) (x : Mv) (i p : Nat) (ho : pt[i]? = some (some p)) (G : AHeap) (hA : WA (lmRow s.post) h w tr cr mr room pt rs ls s.cells) (htl : s.tl = tlOf pt ls) (hG : h.sub G) (hok : WOk room s) (hxn : x.recs.length ≤ 1000) (hxs : ∀ y ∈ x.recs, Small y.bag) : LCalls Try.prog 99 [.box w 0, .box p 0, encMv x] G (fun b => h b ≠ none) (fun n v effs => v = .bool (sendW s (ls i) x).2 ∧ ∃ h', EffTo h h' n effs ∧ WIs lmRow h' w room (sendW s (ls i) x).1) := by
 refine LCalls.intro 56 fi99 rfl Try.ntmps99 rfl (fun b hb => sub_some hG hb) (fun H hH w0 hw0 => ?_)
 have hhH := AHeap.sub_trans hG hH
 have hww := hhH _ _ hA.ww
 have htt := hhH _ _ hA.tt
 have hcc := hhH _ _ hA.cc
 have hmm := hhH _ _ hA.mm
 have htn : s.tl.length = pt.length := by rw [htl, tlOf_len]
 have hcn := hA.len
 have h32 := hok.n32
 have hVt : (AV.own tr 1 0 pt.length).view H = some (pt.map tptr) := AV.view_own_all htt (by simp)
 have hVc : (AV.own cr 1 0 pt.length).view H = some (s.cells.map (.int .i64)) := AV.view_own_all hcc (by rw [List.length_map, hcn])
 have hTa := hA.tb i p ho
 have hT := hTa.mono hhH
 have hM := hok.inv i (ls i) (by rw [htl, tlOf_at, ho]; rfl)
 have hMn := hM.n
 have hMr := hM.r
 refine g_seq (fun K0 hK0 => ?_)
 refine g_region ?_
 refine g_step rfl (s_box rfl rfl rfl rfl ?_)
 refine g_step rfl (s_val (v_assign rfl) rfl rfl ?_)
 refine g_nil ?_
 refine g_next hK0 ?_
 refine g_seq (fun K1 hK1 => ?_)
 refine g_seq (fun K2 hK2 => ?_)
 refine g_draw (n := 12) (fun j => !([] : List Nat).contains j) rfl rfl ?_
 refine m_tk 0 false rfl rfl (by kernel_rfl) (v_move rfl) rfl rfl ?_
 refine m_tk 1 false rfl rfl (by kernel_rfl) (v_nilCheck rfl rfl) rfl rfl ?_
 refine m_tk 2 false rfl rfl (by kernel_rfl) (by first | exact v_fieldAddr ty125 fo125_3 ty123 rfl | exact v_fieldAddr_box ty125 fo125_3 ty123 rfl) rfl rfl ?_
 refine m_tk 3 true rfl rfl (by kernel_rfl) (by first | exact v_load ty123 rfl rfl (by first | rfl | assumption) (by first | assumption | exact map_get (by assumption) | rfl) rfl | exact v_load_box ty123 rfl rfl hww (by rfl)) rfl rfl ?_
 refine m_takel 4 rfl rfl (by kernel_rfl) (by kernel_rfl) (by kernel_rfl) (fun _ _ _ _ h => h) (vl_fieldAddr ty87 fo87_4 ty3 rfl) rfl rfl ?_
 refine m_tk 5 true rfl rfl (by kernel_rfl) (v_loadl ty3 rfl rfl rfl rfl) rfl rfl ?_
 refine m_tk 6 true rfl rfl (by kernel_rfl) (v_lookup (o := (lval (pget s.post x.letter))) (f := (pget s.post x.letter).isSome) ty123 ty3 ty22 rfl rfl rfl hmm (llook _ _) (llook_is _ _)) rfl rfl ?_
 refine m_tk 7 false rfl rfl (by kernel_rfl) (v_move rfl) rfl rfl ?_
 refine m_tk 8 false rfl rfl (by kernel_rfl) (v_extract rfl rfl) rfl rfl ?_
 refine m_tk 9 false rfl rfl (by kernel_rfl) (v_extract rfl rfl) rfl rfl ?_
 refine m_tk 10 false rfl rfl (by kernel_rfl) (v_assign rfl) rfl rfl ?_
 refine m_tk 11 false rfl rfl (by kernel_rfl) (v_assign rfl) rfl rfl ?_
 refine m_done (by kernel_rfl) ?_
 refine g_next hK2 ?_
 refine g_seq (fun K3 hK3 => ?_)
 refine g_region ?_
 refine g_step rfl (s_val (v_move rfl) rfl rfl ?_)
 refine g_nil ?_
 refine g_next hK3 ?_
 refine g_cond rfl (fun hc23 => ?_) (fun hc23 => ?_)
 ·
  try simp only [NM] at hc23
  refine g_seq (fun K4 hK4 => ?_)
  refine g_region ?_
  refine g_step rfl (s_val (v_assign rfl) rfl rfl ?_)
  refine g_nil ?_
  refine g_next hK4 ?_
  refine g_ret ?_
  refine g_then_ret ?_
  have hN : sendW s (ls i) x = (s, false) := if_pos (.inl (by simp_all))
  refine g_end1 (.inl rfl) Try.results99 (.tmp rfl) [] (ASub.refl _) (AHeap.sub_refl _) (fun p hp => by cases hp) ⟨by rw [hN]; rfl, h, EffTo.refl _ _, by rw [hN]; exact ⟨tr, cr, mr, pt, rs, ls, hA, htl⟩⟩
 ·
  try simp only [NM] at hc23
  refine g_skip ?_
  refine g_next hK1 ?_
  refine g_seq (fun K5 hK5 => ?_)
  refine g_seq (fun K6 hK6 => ?_)
  refine g_region ?_
  have hL : ¬ ((pget s.post x.letter).isSome = true) := by simp_all
  refine g_step rfl (s_fieldAddr ty87 fo87_5 ty22 rfl rfl ?_)
  refine g_step rfl (s_val (v_loadl ty22 rfl rfl rfl rfl) rfl rfl ?_)
  refine g_step rfl (s_val (v_len ty22 rfl (by first | rfl | assumption) (by first | exact List.length_map .. | rfl)) rfl rfl ?_)
  refine g_step rfl (s_val (v_move rfl) rfl rfl ?_)
  refine g_nil ?_
  refine g_next hK6 ?_
  refine g_block ?_
  first | refine g_keep [0, 1, 25, 26, 27] [5] [5] (keep_cons rfl (keep_cons rfl (keep_cons rfl (keep_cons rfl (keep_cons rfl keep_nil))))) (lkeep_cons rfl lkeep_nil) (keep_cons rfl keep_nil) rfl ?_ | refine g_keep [0, 1, 25, 26, 27] [5] [5] rfl rfl rfl rfl ?_
  refine g_loop (fun n env L B G => ∃ (k : Nat) , k ≤ x.recs.length ∧ n = x.recs.length - k ∧ env = [(0, .box w 0), (1, .box p 0), (25, encRs x.recs), (26, .int .i64 (x.recs.length : Int)), (27, .int .i64 (k : Int))] ∧ L = [(5, 5, 0)] ∧ B = [(5, (encMv x))] ∧ H = G ∧ ((x.recs.take k).all fun r => (rfind (ls i) r.id).2 && akin (rfind (ls i) r.id).1 r) = true) (x.recs.length) ⟨0, Nat.zero_le _, rfl, rfl, rfl, rfl, rfl, rfl⟩ (fun n env L B G hI => ?_)
  obtain ⟨k, hk, rfl, rfl, rfl, rfl, rfl, hc⟩ := hI
  refine g_seq (fun K7 hK7 => ?_)
  refine g_region ?_
  refine g_step rfl (s_val (v_lss rfl rfl) rfl rfl ?_)
  refine g_nil ?_
  refine g_next hK7 ?_
  refine g_seq (fun K8 hK8 => ?_)
  refine g_cond rfl (fun hc28 => ?_) (fun hc28 => ?_)
  ·
   try simp only [NM] at hc28
   obtain ⟨y, hy⟩ := get_some (l := x.recs) (k := k) (by omega)
   refine g_skip ?_
   refine g_next hK8 ?_
   refine g_seq (fun K9 hK9 => ?_)
   refine g_block ?_
   refine g_seq (fun K10 hK10 => ?_)
   refine g_region ?_
   refine g_step rfl (s_val (v_indexAddr ty22 ty46 rfl rfl (by first | rfl | assumption) (by first | rfl | exact (rfl : (0 : Int) = ((0 : Nat) : Int)) | exact (Int.toNat_of_nonneg (by omega)).symm) (by first | assumption | exact map_get (by assumption) | rfl) rfl) rfl rfl ?_)
   refine g_step rfl (s_val (by first | exact v_load_elt ty46 rfl rfl (by first | rfl | assumption) (by first | assumption | exact map_get (by assumption) | rfl) rfl rfl | exact v_load_box_all ty46 rfl rfl (by assumption) rfl rfl | exact v_load_part (cs := [_, _, _, _, _, _, _]) ty46 rfl rfl (by first | rfl | assumption) (by first | assumption | exact map_get (by assumption) | rfl) rfl rfl rfl | exact v_load_box_part (cs := [_, _, _, _, _, _, _]) ty46 rfl rfl (by assumption) rfl rfl rfl) rfl rfl ?_)
   refine g_step rfl (s_alloc (av := (.agg [(.int .i64 0), (.int .i64 0), (.int .i64 0), (.int .i64 0), (.int .i64 0), (.bool false), .nil0])) ty46 rfl rfl rfl rfl ?_)
   refine g_step rfl (s_store_all ty46 rfl rfl rfl rfl rfl rfl ?_)
   refine g_nil ?_
   refine g_next hK10 ?_
   refine g_seq (fun K11 hK11 => ?_)
   refine g_region ?_
   refine g_step rfl (s_val (v_move rfl) rfl rfl ?_)
   refine g_step rfl (s_fieldAddr ty46 fo46_0 ty3 rfl rfl ?_)
   refine g_step rfl (s_val (v_loadl ty3 rfl rfl rfl rfl) rfl rfl ?_)
   refine g_step rfl (s_callp rfl rfl rfl (mget_ok p (rs i) (i : Int) room (ls i) y.id _ hT (by omega) hM.b) ?_)
   rintro _ rfl
   refine g_step rfl (s_val (v_move rfl) rfl rfl ?_)
   refine g_step rfl (s_val (v_extract rfl rfl) rfl rfl ?_)
   refine g_step rfl (s_val (v_extract rfl rfl) rfl rfl ?_)
   refine g_step rfl (s_alloc (av := (.agg [(.int .i64 0), (.int .i64 0), (.int .i64 0), (.int .i64 0), (.int .i64 0), (.bool false), .nil0])) ty46 rfl rfl rfl rfl ?_)
   refine g_step rfl (s_store_all ty46 rfl rfl rfl rfl rfl rfl ?_)
   refine g_step rfl (s_val (v_assign rfl) rfl rfl ?_)
   refine g_nil ?_
   refine g_next hK11 ?_
   refine g_seq (fun K12 hK12 => ?_)
   refine g_region ?_
   refine g_step rfl (s_val (v_move rfl) rfl rfl ?_)
   refine g_step rfl (s_val (v_not rfl) rfl rfl ?_)
   refine g_step rfl (s_val (v_move rfl) rfl rfl ?_)
   refine g_split 40 rfl (fun hg40 => ?_) (fun hg40 => ?_)
   ·
    try simp only [NM] at hg40
    refine g_step_no (j := 2) (t := 40) rfl rfl rfl rfl rfl rfl rfl ?_
    refine g_step_no (j := 2) (t := 40) rfl rfl rfl rfl rfl rfl rfl ?_
    refine g_step_no (j := 2) (t := 40) rfl rfl rfl rfl rfl rfl rfl ?_
    refine g_step_no (j := 2) (t := 40) rfl rfl rfl rfl rfl rfl rfl ?_
    refine g_step rfl (s_val (v_pick_t rfl rfl) rfl rfl ?_)
    refine g_nil ?_
    refine g_next hK12 ?_
    refine g_cond rfl (fun _ => ?_) (fun h => by cases h)
    refine g_seq (fun K13 hK13 => ?_)
    refine g_region ?_
    refine g_step rfl (s_val (v_assign rfl) rfl rfl ?_)
    refine g_nil ?_
    refine g_next hK13 ?_
    refine g_ret ?_
    refine g_block_ret ?_
    refine g_then_ret ?_
    refine g_then_ret ?_
    refine g_block_ret ?_
    refine g_then_ret ?_
    have hN : sendW s (ls i) x = (s, false) := if_pos (.inr (List.all_eq_false.2 ⟨y, mem_get hy, by simp_all⟩))
    refine g_end1 (.inl rfl) Try.results99 (.tmp rfl) [] (ASub.refl _) (AHeap.sub_refl _) (fun p hp => by cases hp) ⟨by rw [hN]; rfl, h, EffTo.refl _ _, by rw [hN]; exact ⟨tr, cr, mr, pt, rs, ls, hA, htl⟩⟩
   ·
    try simp only [NM] at hg40
    refine g_step_yes (j := 2) (t := 40) rfl rfl rfl rfl (s_val (by first | exact v_loadl_all ty46 rfl rfl rfl rfl rfl | exact v_loadl_part (cs := [_, _, _, _, _, _, _]) ty46 rfl rfl rfl rfl rfl rfl) rfl rfl ?_)
    refine g_step_yes (j := 2) (t := 40) rfl rfl rfl rfl (s_val (by first | exact v_loadl_all ty46 rfl rfl rfl rfl rfl | exact v_loadl_part (cs := [_, _, _, _, _, _, _]) ty46 rfl rfl rfl rfl rfl rfl) rfl rfl ?_)
    refine g_step_yes (j := 2) (t := 40) rfl rfl rfl rfl (s_callp rfl rfl rfl (akin_ok _ _ _) ?_)
    rintro _ rfl
    refine g_step_yes (j := 2) (t := 40) rfl rfl rfl rfl (s_val (v_not rfl) rfl rfl ?_)
    refine g_step rfl (s_val (v_pick_f rfl rfl) rfl rfl ?_)
    refine g_nil ?_
    refine g_next hK12 ?_
    refine g_cond rfl (fun hc45 => ?_) (fun hc45 => ?_)
    ·
     try simp only [NM] at hc45
     refine g_seq (fun K14 hK14 => ?_)
     refine g_region ?_
     refine g_step rfl (s_val (v_assign rfl) rfl rfl ?_)
     refine g_nil ?_
     refine g_next hK14 ?_
     refine g_ret ?_
     refine g_block_ret ?_
     refine g_then_ret ?_
     refine g_then_ret ?_
     refine g_block_ret ?_
     refine g_then_ret ?_
     have hN : sendW s (ls i) x = (s, false) := if_pos (.inr (List.all_eq_false.2 ⟨y, mem_get hy, by simp_all⟩))
     refine g_end1 (.inl rfl) Try.results99 (.tmp rfl) [] (ASub.refl _) (AHeap.sub_refl _) (fun p hp => by cases hp) ⟨by rw [hN]; rfl, h, EffTo.refl _ _, by rw [hN]; exact ⟨tr, cr, mr, pt, rs, ls, hA, htl⟩⟩
    ·
     try simp only [NM] at hc45
     refine g_skip ?_
     refine g_block_normal ?_
     refine g_next hK9 ?_
     refine g_region ?_
     refine g_step rfl (s_val (v_add rfl rfl (by omega)) rfl rfl ?_)
     refine g_step rfl (s_val (v_move rfl) rfl rfl ?_)
     refine g_nil ?_
     first | refine g_keep [0, 1, 25, 26, 27] [5] [5] (keep_cons rfl (keep_cons rfl (keep_cons rfl (keep_cons rfl (keep_cons rfl keep_nil))))) (lkeep_cons rfl lkeep_nil) (keep_cons rfl keep_nil) rfl ?_ | refine g_keep [0, 1, 25, 26, 27] [5] [5] rfl rfl rfl rfl ?_
     exact g_round _ (by omega) ⟨k + 1, by omega, rfl, rfl, rfl, rfl, rfl, by rw [all_snoc hy, hc]; simp_all⟩
  ·
   try simp only [NM] at hc28
   obtain rfl : k = x.recs.length := by omega
   rw [List.take_length] at hc
   refine g_exit ?_
   refine g_then_exit ?_
   refine g_then_exit ?_
   refine g_block_same ?_
   refine g_next hK5 ?_
   refine g_seq (fun K15 hK15 => ?_)
   refine g_draw (n := 10) (fun j => !([9] : List Nat).contains j) rfl rfl ?_
   refine m_tk 0 false rfl rfl (by kernel_rfl) (v_move rfl) rfl rfl ?_
   refine m_tk 1 false rfl rfl (by kernel_rfl) (v_nilCheck rfl rfl) rfl rfl ?_
   refine m_tk 2 false rfl rfl (by kernel_rfl) (by first | exact v_fieldAddr ty125 fo125_3 ty123 rfl | exact v_fieldAddr_box ty125 fo125_3 ty123 rfl) rfl rfl ?_
   refine m_tk 3 true rfl rfl (by kernel_rfl) (by first | exact v_load ty123 rfl rfl (by first | rfl | assumption) (by first | assumption | exact map_get (by assumption) | rfl) rfl | exact v_load_box ty123 rfl rfl hww (by rfl)) rfl rfl ?_
   refine m_takel 4 rfl rfl (by kernel_rfl) (by kernel_rfl) (by kernel_rfl) (fun _ _ _ _ h => h) (vl_fieldAddr ty87 fo87_4 ty3 rfl) rfl rfl ?_
   refine m_tk 5 true rfl rfl (by kernel_rfl) (v_loadl ty3 rfl rfl rfl rfl) rfl rfl ?_
   refine m_takel 6 rfl rfl (by kernel_rfl) (by kernel_rfl) (by kernel_rfl) (fun _ _ _ _ h => h) (vl_fieldAddr ty87 fo87_5 ty22 rfl) rfl rfl ?_
   refine m_tk 7 true rfl rfl (by kernel_rfl) (v_loadl ty22 rfl rfl rfl rfl) rfl rfl ?_
   refine m_one 8 (by kernel_rfl) rfl rfl ?_
   refine sm_callp rfl rfl rfl (bcores_ok x.recs _ (by omega) hxs) ?_
   rintro _ rfl
   refine m_one 9 (by kernel_rfl) rfl rfl ?_
   refine sm_any rfl (s_mapUpdate ty123 ty3 rfl rfl rfl hmm (.inl (by show h mr ≠ none; rw [hA.mm]; simp)) ?_)
   rw [mput_mmap encRs]
   refine m_done (by kernel_rfl) ?_
   refine g_next hK15 ?_
   refine g_seq (fun K16 hK16 => ?_)
   refine g_region ?_
   refine g_step rfl (s_val (v_assign rfl) rfl rfl ?_)
   refine g_nil ?_
   refine g_next hK16 ?_
   refine g_ret ?_
   have hN : sendW s (ls i) x = (⟨s.tl, s.cells, pput s.post x.letter (coresOf x.recs)⟩, true) := if_neg (by rintro (h9 | h9); exact hL h9; rw [hc] at h9; cases h9)
   refine g_end1 (.inl rfl) Try.results99 (.tmp rfl) [(mr, lmRow (pput s.post x.letter (coresOf x.recs)))] (ASub.refl _) (AHeap.sub_refl _) (((EffTo.refl h w0.heap.size).write (b := mr) (lmRow (pput s.post x.letter (coresOf x.recs))) (.inl (by rw [hA.mm]; simp))).ok hG) ⟨by rw [hN]; rfl, _, ((EffTo.refl h w0.heap.size).write (b := mr) (lmRow (pput s.post x.letter (coresOf x.recs))) (.inl (by rw [hA.mm]; simp))), by rw [hN]; exact ⟨tr, cr, mr, pt, rs, ls, hA.post _, htl⟩⟩

theorem whear_ok (h : AHeap) (w tr cr mr : Nat) (room : Int) (pt : List (Option Nat)) (rs : Nat → Nat) (ls : Nat → List Rc) (s : Wd) (x : Mv) (i p : Nat) (ho : pt[i]? = some (some p)) (G : AHeap) (hA : WA (lmRow s.post) h w tr cr mr room pt rs ls s.cells) (htl : s.tl = tlOf pt ls) (hG : h.sub G) (hok : WOk room s) (hxn : x.recs.length ≤ 1000) (hxs : ∀ y ∈ x.recs, Small y.bag) : LCalls Try.prog 100 [.box w 0, .box p 0, encMv x] G (fun b => h b ≠ none) (fun n v effs => v = .bool (hearW room s i (ls i) x).2 ∧ ∃ h', EffTo h h' n effs ∧ WIs lmRow h' w room (hearW room s i (ls i) x).1) := by
 refine LCalls.intro 39 fi100 rfl Try.ntmps100 rfl (fun b hb => sub_some hG hb) (fun H hH w0 hw0 => ?_)
 have hhH := AHeap.sub_trans hG hH
 have hww := hhH _ _ hA.ww
 have htt := hhH _ _ hA.tt
 have hcc := hhH _ _ hA.cc
 have hmm := hhH _ _ hA.mm
 have htn : s.tl.length = pt.length := by rw [htl, tlOf_len]
 have hcn := hA.len
 have h32 := hok.n32
 have hVt : (AV.own tr 1 0 pt.length).view H = some (pt.map tptr) := AV.view_own_all htt (by simp)
 have hVc : (AV.own cr 1 0 pt.length).view H = some (s.cells.map (.int .i64)) := AV.view_own_all hcc (by rw [List.length_map, hcn])
 have hTa := hA.tb i p ho
 have hT := hTa.mono hhH
 have hM := hok.inv i (ls i) (by rw [htl, tlOf_at, ho]; rfl)
 have hMn := hM.n
 have hMr := hM.r
 refine g_seq (fun K0 hK0 => ?_)
 refine g_region ?_
 refine g_step rfl (s_box rfl rfl rfl rfl ?_)
 refine g_step rfl (s_val (v_assign rfl) rfl rfl ?_)
 refine g_nil ?_
 refine g_next hK0 ?_
 refine g_seq (fun K1 hK1 => ?_)
 refine g_draw (n := 12) (fun j => !([] : List Nat).contains j) rfl rfl ?_
 refine m_tk 0 false rfl rfl (by kernel_rfl) (v_move rfl) rfl rfl ?_
 refine m_tk 1 false rfl rfl (by kernel_rfl) (v_nilCheck rfl rfl) rfl rfl ?_
 refine m_tk 2 false rfl rfl (by kernel_rfl) (by first | exact v_fieldAddr ty125 fo125_3 ty123 rfl | exact v_fieldAddr_box ty125 fo125_3 ty123 rfl) rfl rfl ?_
 refine m_tk 3 true rfl rfl (by kernel_rfl) (by first | exact v_load ty123 rfl rfl (by first | rfl | assumption) (by first | assumption | exact map_get (by assumption) | rfl) rfl | exact v_load_box ty123 rfl rfl hww (by rfl)) rfl rfl ?_
 refine m_takel 4 rfl rfl (by kernel_rfl) (by kernel_rfl) (by kernel_rfl) (fun _ _ _ _ h => h) (vl_fieldAddr ty87 fo87_4 ty3 rfl) rfl rfl ?_
 refine m_tk 5 true rfl rfl (by kernel_rfl) (v_loadl ty3 rfl rfl rfl rfl) rfl rfl ?_
 refine m_tk 6 true rfl rfl (by kernel_rfl) (v_lookup (o := (lval (pget s.post x.letter))) (f := (pget s.post x.letter).isSome) ty123 ty3 ty22 rfl rfl rfl hmm (llook _ _) (llook_is _ _)) rfl rfl ?_
 refine m_tk 7 false rfl rfl (by kernel_rfl) (v_move rfl) rfl rfl ?_
 refine m_tk 8 false rfl rfl (by kernel_rfl) (v_extract rfl rfl) rfl rfl ?_
 refine m_tk 9 false rfl rfl (by kernel_rfl) (v_extract rfl rfl) rfl rfl ?_
 refine m_tk 10 false rfl rfl (by kernel_rfl) (v_assign rfl) rfl rfl ?_
 refine m_tk 11 false rfl rfl (by kernel_rfl) (v_assign rfl) rfl rfl ?_
 refine m_done (by kernel_rfl) ?_
 refine g_next hK1 ?_
 refine g_seq (fun K2 hK2 => ?_)
 refine g_seq (fun K3 hK3 => ?_)
 refine g_region ?_
 rcases hear_cases room s i (ls i) x with ⟨hA0, hA1⟩ | ⟨m, hm, hst, hA0⟩
 ·
  refine g_step rfl (s_val (v_move rfl) rfl rfl ?_)
  refine g_step rfl (s_val (v_not rfl) rfl rfl ?_)
  refine g_step rfl (s_val (v_move rfl) rfl rfl ?_)
  refine g_split 23 rfl (fun hg23 => ?_) (fun hg23 => ?_)
  ·
   try simp only [NM] at hg23
   refine g_step_no (j := 2) (t := 23) rfl rfl rfl rfl rfl rfl rfl ?_
   refine g_step_no (j := 2) (t := 23) rfl rfl rfl rfl rfl rfl rfl ?_
   refine g_step_no (j := 2) (t := 23) rfl rfl rfl rfl rfl rfl rfl ?_
   refine g_step_no (j := 2) (t := 23) rfl rfl rfl rfl rfl rfl rfl ?_
   refine g_step rfl (s_val (v_pick_t rfl rfl) rfl rfl ?_)
   refine g_nil ?_
   refine g_next hK3 ?_
   refine g_cond rfl (fun _ => ?_) (fun h => by cases h)
   refine g_seq (fun K4 hK4 => ?_)
   refine g_region ?_
   refine g_step rfl (s_val (v_assign rfl) rfl rfl ?_)
   refine g_nil ?_
   refine g_next hK4 ?_
   refine g_ret ?_
   refine g_then_ret ?_
   refine g_end1 (.inl rfl) Try.results100 (.tmp rfl) [] (ASub.refl _) (AHeap.sub_refl _) (fun p hp => by cases hp) ⟨by rw [hA0]; rfl, h, EffTo.refl _ _, by rw [hA0]; exact ⟨tr, cr, mr, pt, rs, ls, hA, htl⟩⟩
  ·
   try simp only [NM] at hg23
   refine g_step_yes (j := 2) (t := 23) rfl rfl rfl rfl (s_val (v_move rfl) rfl rfl ?_)
   refine g_step_yes (j := 2) (t := 23) rfl rfl rfl rfl (s_callp rfl rfl rfl (mself_ok p (rs i) (i : Int) room (ls i) _ hT (by omega) hM.b) ?_)
   rintro _ rfl
   refine g_step_yes (j := 2) (t := 23) rfl rfl rfl rfl (s_val (v_field ty46 fo46_2 ty3 rfl rfl rfl) rfl rfl ?_)
   refine g_step_yes (j := 2) (t := 23) rfl rfl rfl rfl (s_val (v_eql rfl rfl) rfl rfl ?_)
   refine g_step rfl (s_val (v_pick_f rfl rfl) rfl rfl ?_)
   refine g_nil ?_
   refine g_next hK3 ?_
   refine g_cond rfl (fun hc28 => ?_) (fun hc28 => ?_)
   ·
    try simp only [NM] at hc28
    refine g_seq (fun K5 hK5 => ?_)
    refine g_region ?_
    refine g_step rfl (s_val (v_assign rfl) rfl rfl ?_)
    refine g_nil ?_
    refine g_next hK5 ?_
    refine g_ret ?_
    refine g_then_ret ?_
    refine g_end1 (.inl rfl) Try.results100 (.tmp rfl) [] (ASub.refl _) (AHeap.sub_refl _) (fun p hp => by cases hp) ⟨by rw [hA0]; rfl, h, EffTo.refl _ _, by rw [hA0]; exact ⟨tr, cr, mr, pt, rs, ls, hA, htl⟩⟩
   · exfalso; (try simp only [NM] at hc28); rcases hA1 with h9 | h9 <;> simp_all
 ·
  refine g_step rfl (s_val (v_move rfl) rfl rfl ?_)
  refine g_step rfl (s_val (v_not rfl) rfl rfl ?_)
  refine g_step rfl (s_val (v_move rfl) rfl rfl ?_)
  refine g_split 23 rfl (fun hg23 => ?_) (fun hg23 => ?_)
  · exfalso; (try simp only [NM] at hg23); rw [hm] at hg23; simp at hg23
  ·
   try simp only [NM] at hg23
   refine g_step_yes (j := 2) (t := 23) rfl rfl rfl rfl (s_val (v_move rfl) rfl rfl ?_)
   refine g_step_yes (j := 2) (t := 23) rfl rfl rfl rfl (s_callp rfl rfl rfl (mself_ok p (rs i) (i : Int) room (ls i) _ hT (by omega) hM.b) ?_)
   rintro _ rfl
   refine g_step_yes (j := 2) (t := 23) rfl rfl rfl rfl (s_val (v_field ty46 fo46_2 ty3 rfl rfl rfl) rfl rfl ?_)
   refine g_step_yes (j := 2) (t := 23) rfl rfl rfl rfl (s_val (v_eql rfl rfl) rfl rfl ?_)
   refine g_step rfl (s_val (v_pick_f rfl rfl) rfl rfl ?_)
   refine g_nil ?_
   refine g_next hK3 ?_
   refine g_cond rfl (fun hc28 => ?_) (fun hc28 => ?_)
   · exfalso; (try simp only [NM] at hc28); first | exact hst hc28 | (rw [hm] at hc28; simp at hc28; exact hst hc28) | simp_all
   ·
    try simp only [NM] at hc28
    refine g_skip ?_
    refine g_next hK2 ?_
    refine g_seq (fun K6 hK6 => ?_)
    refine g_seq (fun K7 hK7 => ?_)
    refine g_region ?_
    rw [hm, show lval (some m) = encRs m from rfl]
    have hms := hok.bag _ _ hm
    have hml := hok.lsz _ _ hm
    refine g_step rfl (s_val (v_move rfl) rfl rfl ?_)
    refine g_step rfl (s_val (v_len ty22 rfl (by first | rfl | assumption) (by first | exact List.length_map .. | rfl)) rfl rfl ?_)
    refine g_step rfl (s_val (v_move rfl) rfl rfl ?_)
    refine g_nil ?_
    refine g_next hK7 ?_
    first | refine g_keep [1, 29, 30, 31] [] [] (keep_cons rfl (keep_cons rfl (keep_cons rfl (keep_cons rfl keep_nil)))) lkeep_nil keep_nil rfl ?_ | refine g_keep [1, 29, 30, 31] [] [] rfl rfl rfl rfl ?_
    refine g_block ?_
    first | refine g_keep [1, 29, 30, 31] [] [] (keep_cons rfl (keep_cons rfl (keep_cons rfl (keep_cons rfl keep_nil)))) lkeep_nil keep_nil rfl ?_ | refine g_keep [1, 29, 30, 31] [] [] rfl rfl rfl rfl ?_
    refine g_loop (fun n env L B G => ∃ (k : Nat) (h1 : AHeap) (rs1 : Nat → Nat) (e1 : List (Nat × ARow)), k ≤ m.length ∧ n = m.length - k ∧ env = [(1, .box p 0), (29, encRs m), (30, .int .i64 (m.length : Int)), (31, .int .i64 (k : Int))] ∧ L = [] ∧ B = [] ∧ G = setAll H e1 ∧ EffTo h h1 w0.heap.size e1 ∧ WA (lmRow s.post) h1 w tr cr mr room pt rs1 (updN ls i (joinAll (i : Int) room (ls i) (m.take k))) s.cells) (m.length) ⟨0, h, rs, [], Nat.zero_le _, rfl, rfl, rfl, rfl, rfl, ⟨EffTo.refl _ _, by rw [show (joinAll (i : Int) room (ls i) (m.take 0)) = ls i from rfl, updN_id]; exact hA⟩⟩ (fun n env L B G hI => ?_)
    obtain ⟨k, h1, rs1, e1, hk, rfl, rfl, rfl, rfl, rfl, hE1, hW1⟩ := hI
    refine g_seq (fun K8 hK8 => ?_)
    refine g_region ?_
    refine g_step rfl (s_val (v_lss rfl rfl) rfl rfl ?_)
    refine g_nil ?_
    refine g_next hK8 ?_
    refine g_seq (fun K9 hK9 => ?_)
    refine g_cond rfl (fun hc32 => ?_) (fun hc32 => ?_)
    ·
     try simp only [NM] at hc32
     obtain ⟨y, hy⟩ := get_some (l := m) (k := k) (by omega)
     have hM1 := joinAll_inv (i : Int) (m.take k) hM (fun z hz => hms z (List.mem_of_mem_take hz))
     have hT0 := hW1.tb i p ho
     rw [updN_at] at hT0
     have hT1 := hT0.mono (hE1.within hhH)
     obtain ⟨o, ho1⟩ := hM1.o
     obtain ⟨q, hq1, hq2, hq3⟩ := at_idx ho1
     refine g_skip ?_
     refine g_next hK9 ?_
     refine g_seq (fun K10 hK10 => ?_)
     refine g_block ?_
     refine g_seq (fun K11 hK11 => ?_)
     refine g_region ?_
     refine g_step rfl (s_val (v_indexAddr ty22 ty46 rfl rfl (by first | rfl | assumption) (by first | rfl | exact (rfl : (0 : Int) = ((0 : Nat) : Int)) | exact (Int.toNat_of_nonneg (by omega)).symm) (by first | assumption | exact map_get (by assumption) | rfl) rfl) rfl rfl ?_)
     refine g_step rfl (s_val (by first | exact v_load_elt ty46 rfl rfl (by first | rfl | assumption) (by first | assumption | exact map_get (by assumption) | rfl) rfl rfl | exact v_load_box_all ty46 rfl rfl (by assumption) rfl rfl | exact v_load_part (cs := [_, _, _, _, _, _, _]) ty46 rfl rfl (by first | rfl | assumption) (by first | assumption | exact map_get (by assumption) | rfl) rfl rfl rfl | exact v_load_box_part (cs := [_, _, _, _, _, _, _]) ty46 rfl rfl (by assumption) rfl rfl rfl) rfl rfl ?_)
     refine g_step rfl (s_alloc (av := (.agg [(.int .i64 0), (.int .i64 0), (.int .i64 0), (.int .i64 0), (.int .i64 0), (.bool false), .nil0])) ty46 rfl rfl rfl rfl ?_)
     refine g_step rfl (s_store_all ty46 rfl rfl rfl rfl rfl rfl ?_)
     refine g_nil ?_
     refine g_next hK11 ?_
     refine g_region ?_
     refine g_step rfl (s_val (v_move rfl) rfl rfl ?_)
     refine g_step rfl (s_val (by first | exact v_loadl_all ty46 rfl rfl rfl rfl rfl | exact v_loadl_part (cs := [_, _, _, _, _, _, _]) ty46 rfl rfl rfl rfl rfl rfl) rfl rfl ?_)
     refine g_step rfl (s_call rfl rfl rfl (mjoin_ok p (rs1 i) (i : Int) room (joinAll (i : Int) room (ls i) (m.take k)) y (hms y (mem_get hy)) _ hT1 (by have := hM1.len; omega) hM1.b q o hq1 hq2 hq3 ho1) (by rintro b (rfl | rfl); exact hE1.some (by rw [hT0.tp]; simp); exact hE1.some (by rw [hT0.tr]; simp)) ?_)
     rintro n1 rv1 effs1 hn1 hdom1 ⟨rfl, hTE⟩ hok1
     obtain ⟨h2, rs2, hE2, hW2⟩ := hW1.act ho (sub_dom (hE1.within hhH) hdom1) (by rw [updN_at]; exact hTE)
     rw [updN_updN, ← joinAll_snoc hy] at hW2
     refine g_nil ?_
     refine g_block_normal ?_
     refine g_next hK10 ?_
     refine g_region ?_
     refine g_step rfl (s_val (v_add rfl rfl (by omega)) rfl rfl ?_)
     refine g_step rfl (s_val (v_move rfl) rfl rfl ?_)
     refine g_nil ?_
     first | refine g_keep [1, 29, 30, 31] [] [] (keep_cons rfl (keep_cons rfl (keep_cons rfl (keep_cons rfl keep_nil)))) lkeep_nil keep_nil rfl ?_ | refine g_keep [1, 29, 30, 31] [] [] rfl rfl rfl rfl ?_
     exact g_round _ (by omega) ⟨k + 1, h2, rs2, effs1 ++ e1, by omega, rfl, rfl, rfl, rfl, (setAll_append _ _ _).symm, ⟨hE1.trans hE2 hn1, hW2⟩⟩
    ·
     try simp only [NM] at hc32
     obtain rfl : k = m.length := by omega
     rw [List.take_length] at hW1
     refine g_exit ?_
     refine g_then_exit ?_
     refine g_then_exit ?_
     refine g_block_same ?_
     refine g_next hK6 ?_
     refine g_seq (fun K12 hK12 => ?_)
     refine g_region ?_
     refine g_step rfl (s_val (v_assign rfl) rfl rfl ?_)
     refine g_nil ?_
     refine g_next hK12 ?_
     refine g_ret ?_
     refine g_end1 (.inl rfl) Try.results100 (.tmp rfl) e1 (ASub.refl _) (AHeap.sub_refl _) (hE1.ok hG) ⟨by rw [hA0]; rfl, h1, hE1, by rw [hA0]; exact ⟨tr, cr, mr, pt, rs1, _, hW1, by show s.tl.set i _ = _; rw [htl]; exact (tlOf_act ho).symm⟩⟩

theorem wbootUp_ok (h : AHeap) (w tr cr mr : Nat) (room : Int) (pt : List (Option Nat)) (rs : Nat → Nat) (ls : Nat → List Rc) (s : Wd) (x : Mv) (i p : Nat) (ho : pt[i]? = some (some p)) (hxi : x.node = (i : Int)) (h1 : 1 ≤ room) (h48 : room ≤ 48) (G : AHeap) (hA : WA (lmRow s.post) h w tr cr mr room pt rs ls s.cells) (htl : s.tl = tlOf pt ls) (hG : h.sub G) (hok : WOk room s) (hxn : x.recs.length ≤ 1000) (hxs : ∀ y ∈ x.recs, Small y.bag) : LCalls Try.prog 97 [.box w 0, encMv x] G (fun b => h b ≠ none) (fun n v effs => v = .bool (bootW s i x).2 ∧ ∃ h', EffTo h h' n effs ∧ WIs lmRow h' w room (bootW s i x).1) := by
 refine LCalls.intro 70 fi97 rfl Try.ntmps97 rfl (fun b hb => sub_some hG hb) (fun H hH w0 hw0 => ?_)
 have hhH := AHeap.sub_trans hG hH
 have hww := hhH _ _ hA.ww
 have htt := hhH _ _ hA.tt
 have hcc := hhH _ _ hA.cc
 have hmm := hhH _ _ hA.mm
 have htn : s.tl.length = pt.length := by rw [htl, tlOf_len]
 have hcn := hA.len
 have h32 := hok.n32
 have hVt : (AV.own tr 1 0 pt.length).view H = some (pt.map tptr) := AV.view_own_all htt (by simp)
 have hVc : (AV.own cr 1 0 pt.length).view H = some (s.cells.map (.int .i64)) := AV.view_own_all hcc (by rw [List.length_map, hcn])
 have hlo := lOf_of htl ho
 have hN : bootW s i x = (s, false) := bootW_up hlo
 refine g_seq (fun K0 hK0 => ?_)
 refine g_region ?_
 refine g_step rfl (s_box rfl rfl rfl rfl ?_)
 refine g_step rfl (s_val (v_assign rfl) rfl rfl ?_)
 refine g_nil ?_
 refine g_next hK0 ?_
 refine g_seq (fun K1 hK1 => ?_)
 refine g_seq (fun K2 hK2 => ?_)
 refine g_draw (n := 15) (fun j => !([] : List Nat).contains j) rfl rfl ?_
 refine m_tk 0 false rfl rfl (by kernel_rfl) (v_move rfl) rfl rfl ?_
 refine m_tk 1 false rfl rfl (by kernel_rfl) (v_nilCheck rfl rfl) rfl rfl ?_
 refine m_tk 2 false rfl rfl (by kernel_rfl) (by first | exact v_fieldAddr ty125 fo125_1 ty122 rfl | exact v_fieldAddr_box ty125 fo125_1 ty122 rfl) rfl rfl ?_
 refine m_tk 3 true rfl rfl (by kernel_rfl) (by first | exact v_load ty122 rfl rfl (by first | rfl | assumption) (by first | assumption | exact map_get (by assumption) | rfl) rfl | exact v_load_box ty122 rfl rfl hww (by rfl)) rfl rfl ?_
 refine m_takel 4 rfl rfl (by kernel_rfl) (by kernel_rfl) (by kernel_rfl) (fun _ _ _ _ h => h) (vl_fieldAddr ty87 fo87_1 ty3 rfl) rfl rfl ?_
 refine m_tk 5 true rfl rfl (by kernel_rfl) (v_loadl ty3 rfl rfl rfl rfl) rfl rfl ?_
 refine m_tk 6 false rfl rfl (by kernel_rfl) (v_indexAddr ty122 ty48 rfl rfl hVt hxi (map_get ho) rfl) rfl rfl ?_
 refine m_tk 7 true rfl rfl (by kernel_rfl) (by first | exact v_load ty48 rfl rfl hVt (map_get ho) rfl | exact v_load_box ty48 rfl rfl (by assumption) rfl) rfl rfl ?_
 refine m_tk 8 false rfl rfl (by kernel_rfl) (by first | exact v_ptr_neq_nil ty48 rfl rfl rfl | exact v_nil_neq_nil ty48 rfl rfl | exact v_ptrO_neq ty48 rfl rfl) rfl rfl ?_
 refine m_tk 9 false rfl rfl (by kernel_rfl) (v_move rfl) rfl rfl ?_
 refine m_split 17 rfl (fun hg17 => ?_) (fun hg17 => ?_)
 ·
  try simp only [NM] at hg17
  refine m_take_no (j := 9) (t := 17) 10 rfl rfl rfl rfl rfl rfl (by kernel_rfl) (by kernel_rfl) (by kernel_rfl) (fun _ _ _ _ h => h) rfl rfl ?_
  refine m_take_no (j := 9) (t := 17) 11 rfl rfl rfl rfl rfl rfl (by kernel_rfl) (by kernel_rfl) (by kernel_rfl) (fun _ _ _ _ h => h) rfl rfl ?_
  refine m_take_no (j := 9) (t := 17) 12 rfl rfl rfl rfl rfl rfl (by kernel_rfl) (by kernel_rfl) (by kernel_rfl) (fun _ _ _ _ h => h) rfl rfl ?_
  refine m_take_no (j := 9) (t := 17) 13 rfl rfl rfl rfl rfl rfl (by kernel_rfl) (by kernel_rfl) (by kernel_rfl) (fun _ _ _ _ h => h) rfl rfl ?_
  refine m_tk 14 false rfl rfl (by kernel_rfl) (v_pick_t rfl rfl) rfl rfl ?_
  refine m_done (by kernel_rfl) ?_
  refine g_next hK2 ?_
  refine g_cond rfl (fun _ => ?_) (fun h => by cases h)
  refine g_seq (fun K3 hK3 => ?_)
  refine g_region ?_
  refine g_step rfl (s_val (v_assign rfl) rfl rfl ?_)
  refine g_nil ?_
  refine g_next hK3 ?_
  refine g_ret ?_
  refine g_then_ret ?_
  refine g_end1 (.inl rfl) Try.results97 (.tmp rfl) [] (ASub.refl _) (AHeap.sub_refl _) (fun p hp => by cases hp) ⟨by rw [hN]; rfl, h, EffTo.refl _ _, by rw [hN]; exact ⟨tr, cr, mr, pt, rs, ls, hA, htl⟩⟩
 · exfalso; (try simp only [NM] at hg17); simp at hg17

theorem wbootDn_ok (h : AHeap) (w tr cr mr : Nat) (room : Int) (pt : List (Option Nat)) (rs : Nat → Nat) (ls : Nat → List Rc) (s : Wd) (x : Mv) (i : Nat) (ho : pt[i]? = some none) (hxi : x.node = (i : Int)) (h1 : 1 ≤ room) (h48 : room ≤ 48) (G : AHeap) (hA : WA (lmRow s.post) h w tr cr mr room pt rs ls s.cells) (htl : s.tl = tlOf pt ls) (hG : h.sub G) (hok : WOk room s) (hxn : x.recs.length ≤ 1000) (hxs : ∀ y ∈ x.recs, Small y.bag) : LCalls Try.prog 97 [.box w 0, encMv x] G (fun b => h b ≠ none) (fun n v effs => v = .bool (bootW s i x).2 ∧ ∃ h', EffTo h h' n effs ∧ WIs lmRow h' w room (bootW s i x).1) := by
 refine LCalls.intro 70 fi97 rfl Try.ntmps97 rfl (fun b hb => sub_some hG hb) (fun H hH w0 hw0 => ?_)
 have hhH := AHeap.sub_trans hG hH
 have hww := hhH _ _ hA.ww
 have htt := hhH _ _ hA.tt
 have hcc := hhH _ _ hA.cc
 have hmm := hhH _ _ hA.mm
 have htn : s.tl.length = pt.length := by rw [htl, tlOf_len]
 have hcn := hA.len
 have h32 := hok.n32
 have hVt : (AV.own tr 1 0 pt.length).view H = some (pt.map tptr) := AV.view_own_all htt (by simp)
 have hVc : (AV.own cr 1 0 pt.length).view H = some (s.cells.map (.int .i64)) := AV.view_own_all hcc (by rw [List.length_map, hcn])
 have hlo : lOf s i = none := lOf_of htl ho
 have hipt : i < pt.length := (List.getElem?_eq_some_iff.1 ho).1
 refine g_seq (fun K0 hK0 => ?_)
 refine g_region ?_
 refine g_step rfl (s_box rfl rfl rfl rfl ?_)
 refine g_step rfl (s_val (v_assign rfl) rfl rfl ?_)
 refine g_nil ?_
 refine g_next hK0 ?_
 refine g_seq (fun K1 hK1 => ?_)
 refine g_seq (fun K2 hK2 => ?_)
 refine g_draw (n := 15) (fun j => !([] : List Nat).contains j) rfl rfl ?_
 refine m_tk 0 false rfl rfl (by kernel_rfl) (v_move rfl) rfl rfl ?_
 refine m_tk 1 false rfl rfl (by kernel_rfl) (v_nilCheck rfl rfl) rfl rfl ?_
 refine m_tk 2 false rfl rfl (by kernel_rfl) (by first | exact v_fieldAddr ty125 fo125_1 ty122 rfl | exact v_fieldAddr_box ty125 fo125_1 ty122 rfl) rfl rfl ?_
 refine m_tk 3 true rfl rfl (by kernel_rfl) (by first | exact v_load ty122 rfl rfl (by first | rfl | assumption) (by first | assumption | exact map_get (by assumption) | rfl) rfl | exact v_load_box ty122 rfl rfl hww (by rfl)) rfl rfl ?_
 refine m_takel 4 rfl rfl (by kernel_rfl) (by kernel_rfl) (by kernel_rfl) (fun _ _ _ _ h => h) (vl_fieldAddr ty87 fo87_1 ty3 rfl) rfl rfl ?_
 refine m_tk 5 true rfl rfl (by kernel_rfl) (v_loadl ty3 rfl rfl rfl rfl) rfl rfl ?_
 refine m_tk 6 false rfl rfl (by kernel_rfl) (v_indexAddr ty122 ty48 rfl rfl hVt hxi (map_get ho) rfl) rfl rfl ?_
 refine m_tk 7 true rfl rfl (by kernel_rfl) (by first | exact v_load ty48 rfl rfl hVt (map_get ho) rfl | exact v_load_box ty48 rfl rfl (by assumption) rfl) rfl rfl ?_
 refine m_tk 8 false rfl rfl (by kernel_rfl) (by first | exact v_ptr_neq_nil ty48 rfl rfl rfl | exact v_nil_neq_nil ty48 rfl rfl | exact v_ptrO_neq ty48 rfl rfl) rfl rfl ?_
 refine m_tk 9 false rfl rfl (by kernel_rfl) (v_move rfl) rfl rfl ?_
 refine m_split 17 rfl (fun hg17 => ?_) (fun hg17 => ?_)
 · exfalso; (try simp only [NM] at hg17); first | (simp at hg17; done) | exact hg17 rfl
 ·
  try simp only [NM] at hg17
  refine m_takel_yes (j := 9) (t := 17) 10 rfl rfl rfl rfl rfl (by kernel_rfl) (by kernel_rfl) (by kernel_rfl) (fun _ _ _ _ h => h) (vl_fieldAddr ty87 fo87_5 ty22 rfl) rfl rfl ?_
  refine m_take_yes (j := 9) (t := 17) 11 true rfl rfl rfl rfl rfl (by kernel_rfl) (by kernel_rfl) (by kernel_rfl) (fun _ _ _ _ h => h) (v_loadl ty22 rfl rfl rfl rfl) rfl rfl ?_
  refine m_take_yes (j := 9) (t := 17) 12 false rfl rfl rfl rfl rfl (by kernel_rfl) (by kernel_rfl) (by kernel_rfl) (fun _ _ _ _ h => h) (v_len ty22 rfl (by first | rfl | assumption) (by first | exact List.length_map .. | rfl)) rfl rfl ?_
  refine m_take_yes (j := 9) (t := 17) 13 false rfl rfl rfl rfl rfl (by kernel_rfl) (by kernel_rfl) (by kernel_rfl) (fun _ _ _ _ h => h) (v_neq rfl rfl) rfl rfl ?_
  refine m_tk 14 false rfl rfl (by kernel_rfl) (v_pick_f rfl rfl) rfl rfl ?_
  refine m_done (by kernel_rfl) ?_
  refine g_next hK2 ?_
  refine g_cond rfl (fun hc22 => ?_) (fun hc22 => ?_)
  ·
   try simp only [NM] at hc22
   have hN : bootW s i x = (s, false) := bootW_n (by simp_all; omega)
   refine g_seq (fun K3 hK3 => ?_)
   refine g_region ?_
   refine g_step rfl (s_val (v_assign rfl) rfl rfl ?_)
   refine g_nil ?_
   refine g_next hK3 ?_
   refine g_ret ?_
   refine g_then_ret ?_
   refine g_end1 (.inl rfl) Try.results97 (.tmp rfl) [] (ASub.refl _) (AHeap.sub_refl _) (fun p hp => by cases hp) ⟨by rw [hN]; rfl, h, EffTo.refl _ _, by rw [hN]; exact ⟨tr, cr, mr, pt, rs, ls, hA, htl⟩⟩
  ·
   try simp only [NM] at hc22
   obtain ⟨r, hr⟩ := list_one (l := x.recs) (by simp_all; omega)
   obtain ⟨c, hcl⟩ := get_some (l := s.cells) (k := i) (by omega)
   have hsr := hxs r (by rw [hr]; simp)
   have hB := bootW_is hlo hr hcl
   have hr0 : (x.recs.map encR)[0]? = some (encR r) := by rw [hr]; rfl
   refine g_skip ?_
   refine g_next hK1 ?_
   refine g_seq (fun K4 hK4 => ?_)
   refine g_region ?_
   by_cases hst : r.st = 0
   ·
    refine g_step rfl (s_fieldAddr ty87 fo87_5 ty22 rfl rfl ?_)
    refine g_step rfl (s_val (v_loadl ty22 rfl rfl rfl rfl) rfl rfl ?_)
    refine g_step rfl (s_val (v_indexAddr ty22 ty46 rfl rfl rfl rfl hr0 rfl) rfl rfl ?_)
    refine g_step rfl (s_val (by first | exact v_load_elt ty46 rfl rfl rfl hr0 rfl rfl | exact v_load_box_all ty46 rfl rfl (by assumption) rfl rfl | exact v_load_part (cs := [_, _, _, _, _, _, _]) ty46 rfl rfl rfl hr0 rfl rfl rfl | exact v_load_box_part (cs := [_, _, _, _, _, _, _]) ty46 rfl rfl (by assumption) rfl rfl rfl) rfl rfl ?_)
    refine g_step rfl (s_alloc (av := (.agg [(.int .i64 0), (.int .i64 0), (.int .i64 0), (.int .i64 0), (.int .i64 0), (.bool false), .nil0])) ty46 rfl rfl rfl rfl ?_)
    refine g_step rfl (s_store_all ty46 rfl rfl rfl rfl rfl rfl ?_)
    refine g_nil ?_
    refine g_next hK4 ?_
    refine g_seq (fun K5 hK5 => ?_)
    refine g_seq (fun K6 hK6 => ?_)
    refine g_draw (n := 23) (fun j => !([] : List Nat).contains j) rfl rfl ?_
    refine m_tk 0 true rfl rfl (by kernel_rfl) (by first | exact v_loadl_all ty46 rfl rfl rfl rfl rfl | exact v_loadl_part (cs := [_, _, _, _, _, _, _]) ty46 rfl rfl rfl rfl rfl rfl) rfl rfl ?_
    refine m_one 1 (by kernel_rfl) rfl rfl ?_
    refine sm_callp rfl rfl rfl (recValid_ok r _ hsr) ?_
    rintro _ rfl
    refine m_tk 2 false rfl rfl (by kernel_rfl) (v_not rfl) rfl rfl ?_
    refine m_tk 3 false rfl rfl (by kernel_rfl) (v_move rfl) rfl rfl ?_
    refine m_split 30 rfl (fun hg30 => ?_) (fun hg30 => ?_)
    ·
     try simp only [NM] at hg30
     refine m_take_no (j := 3) (t := 30) 4 rfl rfl rfl rfl rfl rfl (by kernel_rfl) (by kernel_rfl) (by kernel_rfl) (fun _ _ _ _ h => h) rfl rfl ?_
     refine m_take_no (j := 3) (t := 30) 5 rfl rfl rfl rfl rfl rfl (by kernel_rfl) (by kernel_rfl) (by kernel_rfl) (fun _ _ _ _ h => h) rfl rfl ?_
     refine m_take_no (j := 3) (t := 30) 6 rfl rfl rfl rfl rfl rfl (by kernel_rfl) (by kernel_rfl) (by kernel_rfl) (fun _ _ _ _ h => h) rfl rfl ?_
     refine m_take_no (j := 3) (t := 30) 7 rfl rfl rfl rfl rfl rfl (by kernel_rfl) (by kernel_rfl) (by kernel_rfl) (fun _ _ _ _ h => h) rfl rfl ?_
     refine m_take_no (j := 3) (t := 30) 8 rfl rfl rfl rfl rfl rfl (by kernel_rfl) (by kernel_rfl) (by kernel_rfl) (fun _ _ _ _ h => h) rfl rfl ?_
     refine m_tk 9 false rfl rfl (by kernel_rfl) (v_pick_t rfl rfl) rfl rfl ?_
     refine m_tk 10 false rfl rfl (by kernel_rfl) (v_move rfl) rfl rfl ?_
     refine m_take_no (j := 10) (t := 37) 11 rfl rfl rfl rfl rfl rfl (by kernel_rfl) (by kernel_rfl) (by kernel_rfl) (fun _ _ _ _ h => h) rfl rfl ?_
     refine m_take_no (j := 10) (t := 37) 12 rfl rfl rfl rfl rfl rfl (by kernel_rfl) (by kernel_rfl) (by kernel_rfl) (fun _ _ _ _ h => h) rfl rfl ?_
     refine m_take_no (j := 10) (t := 37) 13 rfl rfl rfl rfl rfl rfl (by kernel_rfl) (by kernel_rfl) (by kernel_rfl) (fun _ _ _ _ h => h) rfl rfl ?_
     refine m_take_no (j := 10) (t := 37) 14 rfl rfl rfl rfl rfl rfl (by kernel_rfl) (by kernel_rfl) (by kernel_rfl) (fun _ _ _ _ h => h) rfl rfl ?_
     refine m_take_no (j := 10) (t := 37) 15 rfl rfl rfl rfl rfl rfl (by kernel_rfl) (by kernel_rfl) (by kernel_rfl) (fun _ _ _ _ h => h) rfl rfl ?_
     refine m_take_no (j := 10) (t := 37) 16 rfl rfl rfl rfl rfl rfl (by kernel_rfl) (by kernel_rfl) (by kernel_rfl) (fun _ _ _ _ h => h) rfl rfl ?_
     refine m_take_no (j := 10) (t := 37) 17 rfl rfl rfl rfl rfl rfl (by kernel_rfl) (by kernel_rfl) (by kernel_rfl) (fun _ _ _ _ h => h) rfl rfl ?_
     refine m_take_no (j := 10) (t := 37) 18 rfl rfl rfl rfl rfl rfl (by kernel_rfl) (by kernel_rfl) (by kernel_rfl) (fun _ _ _ _ h => h) rfl rfl ?_
     refine m_take_no (j := 10) (t := 37) 19 rfl rfl rfl rfl rfl rfl (by kernel_rfl) (by kernel_rfl) (by kernel_rfl) (fun _ _ _ _ h => h) rfl rfl ?_
     refine m_take_no (j := 10) (t := 37) 20 rfl rfl rfl rfl rfl rfl (by kernel_rfl) (by kernel_rfl) (by kernel_rfl) (fun _ _ _ _ h => h) rfl rfl ?_
     refine m_take_no (j := 10) (t := 37) 21 rfl rfl rfl rfl rfl rfl (by kernel_rfl) (by kernel_rfl) (by kernel_rfl) (fun _ _ _ _ h => h) rfl rfl ?_
     refine m_tk 22 false rfl rfl (by kernel_rfl) (v_pick_t rfl rfl) rfl rfl ?_
     refine m_done (by kernel_rfl) ?_
     refine g_next hK6 ?_
     first | refine g_keep [0, 49] [3, 5] [3, 5] (keep_cons rfl (keep_cons rfl keep_nil)) (lkeep_cons rfl (lkeep_cons rfl lkeep_nil)) (keep_cons rfl (keep_cons rfl keep_nil)) rfl ?_ | refine g_keep [0, 49] [3, 5] [3, 5] rfl rfl rfl rfl ?_
     refine g_cond rfl (fun _ => ?_) (fun h => by cases h)
     refine g_seq (fun K7 hK7 => ?_)
     refine g_region ?_
     refine g_step rfl (s_val (v_assign rfl) rfl rfl ?_)
     refine g_nil ?_
     refine g_next hK7 ?_
     refine g_ret ?_
     refine g_then_ret ?_
     have hN : bootW s i x = (s, false) := by rw [hB]; exact if_neg (by rintro ⟨h7, h8, h9, _⟩; first | omega | (simp_all; done) | (simp_all; omega))
     refine g_end1 (.inl rfl) Try.results97 (.tmp rfl) [] (ASub.refl _) (AHeap.sub_refl _) (fun p hp => by cases hp) ⟨by rw [hN]; rfl, h, EffTo.refl _ _, by rw [hN]; exact ⟨tr, cr, mr, pt, rs, ls, hA, htl⟩⟩
    ·
     try simp only [NM] at hg30
     refine m_takel_yes (j := 3) (t := 30) 4 rfl rfl rfl rfl rfl (by kernel_rfl) (by kernel_rfl) (by kernel_rfl) (fun _ _ _ _ h => h) (vl_fieldAddr ty46 fo46_0 ty3 rfl) rfl rfl ?_
     refine m_take_yes (j := 3) (t := 30) 5 true rfl rfl rfl rfl rfl (by kernel_rfl) (by kernel_rfl) (by kernel_rfl) (fun _ _ _ _ h => h) (v_loadl ty3 rfl rfl rfl rfl) rfl rfl ?_
     refine m_takel_yes (j := 3) (t := 30) 6 rfl rfl rfl rfl rfl (by kernel_rfl) (by kernel_rfl) (by kernel_rfl) (fun _ _ _ _ h => h) (vl_fieldAddr ty87 fo87_1 ty3 rfl) rfl rfl ?_
     refine m_take_yes (j := 3) (t := 30) 7 true rfl rfl rfl rfl rfl (by kernel_rfl) (by kernel_rfl) (by kernel_rfl) (fun _ _ _ _ h => h) (v_loadl ty3 rfl rfl rfl rfl) rfl rfl ?_
     refine m_take_yes (j := 3) (t := 30) 8 false rfl rfl rfl rfl rfl (by kernel_rfl) (by kernel_rfl) (by kernel_rfl) (fun _ _ _ _ h => h) (v_neq rfl rfl) rfl rfl ?_
     refine m_tk 9 false rfl rfl (by kernel_rfl) (v_pick_f rfl rfl) rfl rfl ?_
     refine m_tk 10 false rfl rfl (by kernel_rfl) (v_move rfl) rfl rfl ?_
     refine m_split 37 rfl (fun hg37 => ?_) (fun hg37 => ?_)
     ·
      try simp only [NM] at hg37
      refine m_take_no (j := 10) (t := 37) 11 rfl rfl rfl rfl rfl rfl (by kernel_rfl) (by kernel_rfl) (by kernel_rfl) (fun _ _ _ _ h => h) rfl rfl ?_
      refine m_take_no (j := 10) (t := 37) 12 rfl rfl rfl rfl rfl rfl (by kernel_rfl) (by kernel_rfl) (by kernel_rfl) (fun _ _ _ _ h => h) rfl rfl ?_
      refine m_take_no (j := 10) (t := 37) 13 rfl rfl rfl rfl rfl rfl (by kernel_rfl) (by kernel_rfl) (by kernel_rfl) (fun _ _ _ _ h => h) rfl rfl ?_
      refine m_take_no (j := 10) (t := 37) 14 rfl rfl rfl rfl rfl rfl (by kernel_rfl) (by kernel_rfl) (by kernel_rfl) (fun _ _ _ _ h => h) rfl rfl ?_
      refine m_take_no (j := 10) (t := 37) 15 rfl rfl rfl rfl rfl rfl (by kernel_rfl) (by kernel_rfl) (by kernel_rfl) (fun _ _ _ _ h => h) rfl rfl ?_
      refine m_take_no (j := 10) (t := 37) 16 rfl rfl rfl rfl rfl rfl (by kernel_rfl) (by kernel_rfl) (by kernel_rfl) (fun _ _ _ _ h => h) rfl rfl ?_
      refine m_take_no (j := 10) (t := 37) 17 rfl rfl rfl rfl rfl rfl (by kernel_rfl) (by kernel_rfl) (by kernel_rfl) (fun _ _ _ _ h => h) rfl rfl ?_
      refine m_take_no (j := 10) (t := 37) 18 rfl rfl rfl rfl rfl rfl (by kernel_rfl) (by kernel_rfl) (by kernel_rfl) (fun _ _ _ _ h => h) rfl rfl ?_
      refine m_take_no (j := 10) (t := 37) 19 rfl rfl rfl rfl rfl rfl (by kernel_rfl) (by kernel_rfl) (by kernel_rfl) (fun _ _ _ _ h => h) rfl rfl ?_
      refine m_take_no (j := 10) (t := 37) 20 rfl rfl rfl rfl rfl rfl (by kernel_rfl) (by kernel_rfl) (by kernel_rfl) (fun _ _ _ _ h => h) rfl rfl ?_
      refine m_take_no (j := 10) (t := 37) 21 rfl rfl rfl rfl rfl rfl (by kernel_rfl) (by kernel_rfl) (by kernel_rfl) (fun _ _ _ _ h => h) rfl rfl ?_
      refine m_tk 22 false rfl rfl (by kernel_rfl) (v_pick_t rfl rfl) rfl rfl ?_
      refine m_done (by kernel_rfl) ?_
      refine g_next hK6 ?_
      first | refine g_keep [0, 49] [3, 5] [3, 5] (keep_cons rfl (keep_cons rfl keep_nil)) (lkeep_cons rfl (lkeep_cons rfl lkeep_nil)) (keep_cons rfl (keep_cons rfl keep_nil)) rfl ?_ | refine g_keep [0, 49] [3, 5] [3, 5] rfl rfl rfl rfl ?_
      refine g_cond rfl (fun _ => ?_) (fun h => by cases h)
      refine g_seq (fun K8 hK8 => ?_)
      refine g_region ?_
      refine g_step rfl (s_val (v_assign rfl) rfl rfl ?_)
      refine g_nil ?_
      refine g_next hK8 ?_
      refine g_ret ?_
      refine g_then_ret ?_
      have hN : bootW s i x = (s, false) := by rw [hB]; exact if_neg (by rintro ⟨h7, h8, h9, _⟩; first | omega | (simp_all; done) | (simp_all; omega))
      refine g_end1 (.inl rfl) Try.results97 (.tmp rfl) [] (ASub.refl _) (AHeap.sub_refl _) (fun p hp => by cases hp) ⟨by rw [hN]; rfl, h, EffTo.refl _ _, by rw [hN]; exact ⟨tr, cr, mr, pt, rs, ls, hA, htl⟩⟩
     ·
      try simp only [NM] at hg37
      refine m_takel_yes (j := 10) (t := 37) 11 rfl rfl rfl rfl rfl (by kernel_rfl) (by kernel_rfl) (by kernel_rfl) (fun _ _ _ _ h => h) (vl_fieldAddr ty46 fo46_1 ty3 rfl) rfl rfl ?_
      refine m_take_yes (j := 10) (t := 37) 12 true rfl rfl rfl rfl rfl (by kernel_rfl) (by kernel_rfl) (by kernel_rfl) (fun _ _ _ _ h => h) (v_loadl ty3 rfl rfl rfl rfl) rfl rfl ?_
      refine m_take_yes (j := 10) (t := 37) 13 false rfl rfl rfl rfl rfl (by kernel_rfl) (by kernel_rfl) (by kernel_rfl) (fun _ _ _ _ h => h) (v_move rfl) rfl rfl ?_
      refine m_take_yes (j := 10) (t := 37) 14 false rfl rfl rfl rfl rfl (by kernel_rfl) (by kernel_rfl) (by kernel_rfl) (fun _ _ _ _ h => h) (v_nilCheck rfl rfl) rfl rfl ?_
      refine m_take_yes (j := 10) (t := 37) 15 false rfl rfl rfl rfl rfl (by kernel_rfl) (by kernel_rfl) (by kernel_rfl) (fun _ _ _ _ h => h) (by first | exact v_fieldAddr ty125 fo125_2 ty71 rfl | exact v_fieldAddr_box ty125 fo125_2 ty71 rfl) rfl rfl ?_
      refine m_take_yes (j := 10) (t := 37) 16 true rfl rfl rfl rfl rfl (by kernel_rfl) (by kernel_rfl) (by kernel_rfl) (fun _ _ _ _ h => h) (by first | exact v_load ty71 rfl rfl (by first | rfl | assumption) (by first | assumption | exact map_get (by assumption) | rfl) rfl | exact v_load_box ty71 rfl rfl hww (by rfl)) rfl rfl ?_
      refine m_takel_yes (j := 10) (t := 37) 17 rfl rfl rfl rfl rfl (by kernel_rfl) (by kernel_rfl) (by kernel_rfl) (fun _ _ _ _ h => h) (vl_fieldAddr ty87 fo87_1 ty3 rfl) rfl rfl ?_
      refine m_take_yes (j := 10) (t := 37) 18 true rfl rfl rfl rfl rfl (by kernel_rfl) (by kernel_rfl) (by kernel_rfl) (fun _ _ _ _ h => h) (v_loadl ty3 rfl rfl rfl rfl) rfl rfl ?_
      refine m_take_yes (j := 10) (t := 37) 19 false rfl rfl rfl rfl rfl (by kernel_rfl) (by kernel_rfl) (by kernel_rfl) (fun _ _ _ _ h => h) (v_indexAddr ty71 ty3 rfl rfl hVc hxi (map_get hcl) rfl) rfl rfl ?_
      refine m_take_yes (j := 10) (t := 37) 20 true rfl rfl rfl rfl rfl (by kernel_rfl) (by kernel_rfl) (by kernel_rfl) (fun _ _ _ _ h => h) (by first | exact v_load ty3 rfl rfl hVc (map_get hcl) rfl | exact v_load_box ty3 rfl rfl (by assumption) rfl) rfl rfl ?_
      refine m_take_yes (j := 10) (t := 37) 21 false rfl rfl rfl rfl rfl (by kernel_rfl) (by kernel_rfl) (by kernel_rfl) (fun _ _ _ _ h => h) (v_lss rfl rfl) rfl rfl ?_
      refine m_tk 22 false rfl rfl (by kernel_rfl) (v_pick_f rfl rfl) rfl rfl ?_
      refine m_done (by kernel_rfl) ?_
      refine g_next hK6 ?_
      first | refine g_keep [0, 49] [3, 5] [3, 5] (keep_cons rfl (keep_cons rfl keep_nil)) (lkeep_cons rfl (lkeep_cons rfl lkeep_nil)) (keep_cons rfl (keep_cons rfl keep_nil)) rfl ?_ | refine g_keep [0, 49] [3, 5] [3, 5] rfl rfl rfl rfl ?_
      refine g_cond rfl (fun hc49 => ?_) (fun hc49 => ?_)
      ·
       try simp only [NM] at hc49
       refine g_seq (fun K9 hK9 => ?_)
       refine g_region ?_
       refine g_step rfl (s_val (v_assign rfl) rfl rfl ?_)
       refine g_nil ?_
       refine g_next hK9 ?_
       refine g_ret ?_
       refine g_then_ret ?_
       have hN : bootW s i x = (s, false) := by rw [hB]; exact if_neg (by rintro ⟨h7, h8, h9, _⟩; first | omega | (simp_all; done) | (simp_all; omega))
       refine g_end1 (.inl rfl) Try.results97 (.tmp rfl) [] (ASub.refl _) (AHeap.sub_refl _) (fun p hp => by cases hp) ⟨by rw [hN]; rfl, h, EffTo.refl _ _, by rw [hN]; exact ⟨tr, cr, mr, pt, rs, ls, hA, htl⟩⟩
      ·
       try simp only [NM] at hc49
       have hcond : recValid r = true ∧ r.id = (i : Int) ∧ c ≤ r.inc ∧ r.st = 0 := by refine ⟨?_, ?_, ?_, hst⟩ <;> (simp_all; try omega)
       have hN : bootW s i x = (setT s i (some [core r]), true) := by rw [hB]; exact if_pos hcond
       refine g_skip ?_
       refine g_next hK5 ?_
       refine g_seq (fun K10 hK10 => ?_)
       refine g_draw (n := 12) (fun j => !([6] : List Nat).contains j) rfl rfl ?_
       refine m_tk 0 true rfl rfl (by kernel_rfl) (by first | exact v_loadl_all ty46 rfl rfl rfl rfl rfl | exact v_loadl_part (cs := [_, _, _, _, _, _, _]) ty46 rfl rfl rfl rfl rfl rfl) rfl rfl ?_
       refine m_tk 2 false rfl rfl (by kernel_rfl) (v_move rfl) rfl rfl ?_
       refine m_tk 3 false rfl rfl (by kernel_rfl) (v_nilCheck rfl rfl) rfl rfl ?_
       refine m_tk 4 false rfl rfl (by kernel_rfl) (by first | exact v_fieldAddr ty125 fo125_0 ty3 rfl | exact v_fieldAddr_box ty125 fo125_0 ty3 rfl) rfl rfl ?_
       refine m_tk 5 true rfl rfl (by kernel_rfl) (by first | exact v_load ty3 rfl rfl (by first | rfl | assumption) (by first | assumption | exact map_get (by assumption) | rfl) rfl | exact v_load_box ty3 rfl rfl hww (by rfl)) rfl rfl ?_
       refine m_one 1 (by kernel_rfl) rfl rfl ?_
       refine sm_callp rfl rfl rfl (core_ok _ _) ?_
       rintro _ rfl
       refine m_one 6 (by kernel_rfl) rfl rfl ?_
       refine sm_any rfl (s_call rfl rfl rfl (begin_ok (core r) room _ small0 (valid_core hcond.1) hst h1 h48) (fun _ h => h.elim) ?_)
       rintro n1 _ effs1 hn1 hdom1 ⟨q, qr, hq1, hq2, hqn, rfl, rfl⟩ hok1
       obtain ⟨h1', hE1, htt1, hww1, hW1⟩ := boot_new hA hipt ho (sub_dom hhH hdom1) hq1 hq2 hqn (r := core r) hcond.2.1
       have hs1 := hE1.within hhH
       have htt2 := hs1 _ _ htt1
       have hDt : h tr ≠ none ∨ w0.heap.size ≤ tr := .inl (by rw [hA.tt]; simp)
       have hww2 := hs1 _ _ hww1
       have hVt2 := (AV.view_own_all (l := pt.map tptr) htt2 (n := pt.length) (by simp))
       refine m_tk 7 false rfl rfl (by kernel_rfl) (v_move rfl) rfl rfl ?_
       refine m_tk 8 false rfl rfl (by kernel_rfl) (v_extract rfl rfl) rfl rfl ?_
       refine m_tk 9 false rfl rfl (by kernel_rfl) (v_extract rfl rfl) rfl rfl ?_
       refine m_tk 10 false rfl rfl (by kernel_rfl) (v_assign rfl) rfl rfl ?_
       refine m_tk 11 false rfl rfl (by kernel_rfl) (v_assign rfl) rfl rfl ?_
       refine m_done (by kernel_rfl) ?_
       refine g_next hK10 ?_
       refine g_seq (fun K11 hK11 => ?_)
       refine g_seq (fun K12 hK12 => ?_)
       refine g_region ?_
       refine g_step rfl (s_val (v_move rfl) rfl rfl ?_)
       refine g_step rfl (s_val (v_neq rfl rfl) rfl rfl ?_)
       refine g_nil ?_
       refine g_next hK12 ?_
       refine g_cond rfl (fun hc61 => ?_) (fun hc61 => ?_)
       · exfalso; (try simp only [NM] at hc61); first | exact hc61 rfl | (simp at hc61; done)
       ·
        try simp only [NM] at hc61
        refine g_skip ?_
        refine g_next hK11 ?_
        refine g_seq (fun K13 hK13 => ?_)
        refine g_draw (n := 9) (fun j => !([8] : List Nat).contains j) rfl rfl ?_
        refine m_tk 0 false rfl rfl (by kernel_rfl) (v_move rfl) rfl rfl ?_
        refine m_tk 1 false rfl rfl (by kernel_rfl) (v_nilCheck rfl rfl) rfl rfl ?_
        refine m_tk 2 false rfl rfl (by kernel_rfl) (by first | exact v_fieldAddr ty125 fo125_1 ty122 rfl | exact v_fieldAddr_box ty125 fo125_1 ty122 rfl) rfl rfl ?_
        refine m_tk 3 true rfl rfl (by kernel_rfl) (by first | exact v_load ty122 rfl rfl (by first | rfl | assumption) (by first | assumption | exact map_get (by assumption) | rfl) rfl | exact v_load_box ty122 rfl rfl hww2 (by rfl)) rfl rfl ?_
        refine m_takel 4 rfl rfl (by kernel_rfl) (by kernel_rfl) (by kernel_rfl) (fun _ _ _ _ h => h) (vl_fieldAddr ty87 fo87_1 ty3 rfl) rfl rfl ?_
        refine m_tk 5 true rfl rfl (by kernel_rfl) (v_loadl ty3 rfl rfl rfl rfl) rfl rfl ?_
        refine m_tk 6 false rfl rfl (by kernel_rfl) (v_move rfl) rfl rfl ?_
        refine m_tk 7 false rfl rfl (by kernel_rfl) (v_indexAddr ty122 ty48 rfl rfl hVt2 hxi (map_get ho) rfl) rfl rfl ?_
        refine m_one 8 (by kernel_rfl) rfl rfl ?_
        refine sm_any rfl (s_store_row (k := i) (off := 0) (old := .nilp) (new := .box q 0) ty48 rfl rfl htt2 (by rw [Nat.zero_add]; exact map_get ho) rfl rfl rfl rfl hDt ?_)
        rw [show (0 + i : Nat) = i from Nat.zero_add i, set_map_t]
        refine m_done (by kernel_rfl) ?_
        refine g_next hK13 ?_
        refine g_seq (fun K14 hK14 => ?_)
        refine g_region ?_
        refine g_step rfl (s_val (v_assign rfl) rfl rfl ?_)
        refine g_nil ?_
        refine g_next hK14 ?_
        refine g_ret ?_
        refine g_end1 (.inl rfl) Try.results97 (.tmp rfl) ((tr, .row 1 ((pt.set i (some q)).map tptr)) :: [(q, .box (tabA (core r).id room qr 1)), (qr, .row 7 ([core r].map encR))]) (ASub.refl _) (AHeap.sub_refl _) (((hE1.weaken hn1).write (b := tr) (.row 1 ((pt.set i (some q)).map tptr)) (.inl (by rw [htt1]; simp))).ok hG) ⟨by rw [hN]; rfl, _, ((hE1.weaken hn1).write (b := tr) (.row 1 ((pt.set i (some q)).map tptr)) (.inl (by rw [htt1]; simp))), by rw [hN]; exact ⟨tr, cr, mr, pt.set i (some q), updN rs i qr, updN ls i [core r], hW1, by show s.tl.set i _ = _; rw [htl]; exact (tlOf_boot hipt).symm⟩⟩
   ·
    refine g_step rfl (s_fieldAddr ty87 fo87_5 ty22 rfl rfl ?_)
    refine g_step rfl (s_val (v_loadl ty22 rfl rfl rfl rfl) rfl rfl ?_)
    refine g_step rfl (s_val (v_indexAddr ty22 ty46 rfl rfl rfl rfl hr0 rfl) rfl rfl ?_)
    refine g_step rfl (s_val (by first | exact v_load_elt ty46 rfl rfl rfl hr0 rfl rfl | exact v_load_box_all ty46 rfl rfl (by assumption) rfl rfl | exact v_load_part (cs := [_, _, _, _, _, _, _]) ty46 rfl rfl rfl hr0 rfl rfl rfl | exact v_load_box_part (cs := [_, _, _, _, _, _, _]) ty46 rfl rfl (by assumption) rfl rfl rfl) rfl rfl ?_)
    refine g_step rfl (s_alloc (av := (.agg [(.int .i64 0), (.int .i64 0), (.int .i64 0), (.int .i64 0), (.int .i64 0), (.bool false), .nil0])) ty46 rfl rfl rfl rfl ?_)
    refine g_step rfl (s_store_all ty46 rfl rfl rfl rfl rfl rfl ?_)
    refine g_nil ?_
    refine g_next hK4 ?_
    refine g_seq (fun K15 hK15 => ?_)
    refine g_seq (fun K16 hK16 => ?_)
    refine g_draw (n := 23) (fun j => !([] : List Nat).contains j) rfl rfl ?_
    refine m_tk 0 true rfl rfl (by kernel_rfl) (by first | exact v_loadl_all ty46 rfl rfl rfl rfl rfl | exact v_loadl_part (cs := [_, _, _, _, _, _, _]) ty46 rfl rfl rfl rfl rfl rfl) rfl rfl ?_
    refine m_one 1 (by kernel_rfl) rfl rfl ?_
    refine sm_callp rfl rfl rfl (recValid_ok r _ hsr) ?_
    rintro _ rfl
    refine m_tk 2 false rfl rfl (by kernel_rfl) (v_not rfl) rfl rfl ?_
    refine m_tk 3 false rfl rfl (by kernel_rfl) (v_move rfl) rfl rfl ?_
    refine m_split 30 rfl (fun hg30 => ?_) (fun hg30 => ?_)
    ·
     try simp only [NM] at hg30
     refine m_take_no (j := 3) (t := 30) 4 rfl rfl rfl rfl rfl rfl (by kernel_rfl) (by kernel_rfl) (by kernel_rfl) (fun _ _ _ _ h => h) rfl rfl ?_
     refine m_take_no (j := 3) (t := 30) 5 rfl rfl rfl rfl rfl rfl (by kernel_rfl) (by kernel_rfl) (by kernel_rfl) (fun _ _ _ _ h => h) rfl rfl ?_
     refine m_take_no (j := 3) (t := 30) 6 rfl rfl rfl rfl rfl rfl (by kernel_rfl) (by kernel_rfl) (by kernel_rfl) (fun _ _ _ _ h => h) rfl rfl ?_
     refine m_take_no (j := 3) (t := 30) 7 rfl rfl rfl rfl rfl rfl (by kernel_rfl) (by kernel_rfl) (by kernel_rfl) (fun _ _ _ _ h => h) rfl rfl ?_
     refine m_take_no (j := 3) (t := 30) 8 rfl rfl rfl rfl rfl rfl (by kernel_rfl) (by kernel_rfl) (by kernel_rfl) (fun _ _ _ _ h => h) rfl rfl ?_
     refine m_tk 9 false rfl rfl (by kernel_rfl) (v_pick_t rfl rfl) rfl rfl ?_
     refine m_tk 10 false rfl rfl (by kernel_rfl) (v_move rfl) rfl rfl ?_
     refine m_take_no (j := 10) (t := 37) 11 rfl rfl rfl rfl rfl rfl (by kernel_rfl) (by kernel_rfl) (by kernel_rfl) (fun _ _ _ _ h => h) rfl rfl ?_
     refine m_take_no (j := 10) (t := 37) 12 rfl rfl rfl rfl rfl rfl (by kernel_rfl) (by kernel_rfl) (by kernel_rfl) (fun _ _ _ _ h => h) rfl rfl ?_
     refine m_take_no (j := 10) (t := 37) 13 rfl rfl rfl rfl rfl rfl (by kernel_rfl) (by kernel_rfl) (by kernel_rfl) (fun _ _ _ _ h => h) rfl rfl ?_
     refine m_take_no (j := 10) (t := 37) 14 rfl rfl rfl rfl rfl rfl (by kernel_rfl) (by kernel_rfl) (by kernel_rfl) (fun _ _ _ _ h => h) rfl rfl ?_
     refine m_take_no (j := 10) (t := 37) 15 rfl rfl rfl rfl rfl rfl (by kernel_rfl) (by kernel_rfl) (by kernel_rfl) (fun _ _ _ _ h => h) rfl rfl ?_
     refine m_take_no (j := 10) (t := 37) 16 rfl rfl rfl rfl rfl rfl (by kernel_rfl) (by kernel_rfl) (by kernel_rfl) (fun _ _ _ _ h => h) rfl rfl ?_
     refine m_take_no (j := 10) (t := 37) 17 rfl rfl rfl rfl rfl rfl (by kernel_rfl) (by kernel_rfl) (by kernel_rfl) (fun _ _ _ _ h => h) rfl rfl ?_
     refine m_take_no (j := 10) (t := 37) 18 rfl rfl rfl rfl rfl rfl (by kernel_rfl) (by kernel_rfl) (by kernel_rfl) (fun _ _ _ _ h => h) rfl rfl ?_
     refine m_take_no (j := 10) (t := 37) 19 rfl rfl rfl rfl rfl rfl (by kernel_rfl) (by kernel_rfl) (by kernel_rfl) (fun _ _ _ _ h => h) rfl rfl ?_
     refine m_take_no (j := 10) (t := 37) 20 rfl rfl rfl rfl rfl rfl (by kernel_rfl) (by kernel_rfl) (by kernel_rfl) (fun _ _ _ _ h => h) rfl rfl ?_
     refine m_take_no (j := 10) (t := 37) 21 rfl rfl rfl rfl rfl rfl (by kernel_rfl) (by kernel_rfl) (by kernel_rfl) (fun _ _ _ _ h => h) rfl rfl ?_
     refine m_tk 22 false rfl rfl (by kernel_rfl) (v_pick_t rfl rfl) rfl rfl ?_
     refine m_done (by kernel_rfl) ?_
     refine g_next hK16 ?_
     first | refine g_keep [0, 49] [3, 5] [3, 5] (keep_cons rfl (keep_cons rfl keep_nil)) (lkeep_cons rfl (lkeep_cons rfl lkeep_nil)) (keep_cons rfl (keep_cons rfl keep_nil)) rfl ?_ | refine g_keep [0, 49] [3, 5] [3, 5] rfl rfl rfl rfl ?_
     refine g_cond rfl (fun _ => ?_) (fun h => by cases h)
     refine g_seq (fun K17 hK17 => ?_)
     refine g_region ?_
     refine g_step rfl (s_val (v_assign rfl) rfl rfl ?_)
     refine g_nil ?_
     refine g_next hK17 ?_
     refine g_ret ?_
     refine g_then_ret ?_
     have hN : bootW s i x = (s, false) := by rw [hB]; exact if_neg (fun h9 => hst h9.2.2.2)
     refine g_end1 (.inl rfl) Try.results97 (.tmp rfl) [] (ASub.refl _) (AHeap.sub_refl _) (fun p hp => by cases hp) ⟨by rw [hN]; rfl, h, EffTo.refl _ _, by rw [hN]; exact ⟨tr, cr, mr, pt, rs, ls, hA, htl⟩⟩
    ·
     try simp only [NM] at hg30
     refine m_takel_yes (j := 3) (t := 30) 4 rfl rfl rfl rfl rfl (by kernel_rfl) (by kernel_rfl) (by kernel_rfl) (fun _ _ _ _ h => h) (vl_fieldAddr ty46 fo46_0 ty3 rfl) rfl rfl ?_
     refine m_take_yes (j := 3) (t := 30) 5 true rfl rfl rfl rfl rfl (by kernel_rfl) (by kernel_rfl) (by kernel_rfl) (fun _ _ _ _ h => h) (v_loadl ty3 rfl rfl rfl rfl) rfl rfl ?_
     refine m_takel_yes (j := 3) (t := 30) 6 rfl rfl rfl rfl rfl (by kernel_rfl) (by kernel_rfl) (by kernel_rfl) (fun _ _ _ _ h => h) (vl_fieldAddr ty87 fo87_1 ty3 rfl) rfl rfl ?_
     refine m_take_yes (j := 3) (t := 30) 7 true rfl rfl rfl rfl rfl (by kernel_rfl) (by kernel_rfl) (by kernel_rfl) (fun _ _ _ _ h => h) (v_loadl ty3 rfl rfl rfl rfl) rfl rfl ?_
     refine m_take_yes (j := 3) (t := 30) 8 false rfl rfl rfl rfl rfl (by kernel_rfl) (by kernel_rfl) (by kernel_rfl) (fun _ _ _ _ h => h) (v_neq rfl rfl) rfl rfl ?_
     refine m_tk 9 false rfl rfl (by kernel_rfl) (v_pick_f rfl rfl) rfl rfl ?_
     refine m_tk 10 false rfl rfl (by kernel_rfl) (v_move rfl) rfl rfl ?_
     refine m_split 37 rfl (fun hg37 => ?_) (fun hg37 => ?_)
     ·
      try simp only [NM] at hg37
      refine m_take_no (j := 10) (t := 37) 11 rfl rfl rfl rfl rfl rfl (by kernel_rfl) (by kernel_rfl) (by kernel_rfl) (fun _ _ _ _ h => h) rfl rfl ?_
      refine m_take_no (j := 10) (t := 37) 12 rfl rfl rfl rfl rfl rfl (by kernel_rfl) (by kernel_rfl) (by kernel_rfl) (fun _ _ _ _ h => h) rfl rfl ?_
      refine m_take_no (j := 10) (t := 37) 13 rfl rfl rfl rfl rfl rfl (by kernel_rfl) (by kernel_rfl) (by kernel_rfl) (fun _ _ _ _ h => h) rfl rfl ?_
      refine m_take_no (j := 10) (t := 37) 14 rfl rfl rfl rfl rfl rfl (by kernel_rfl) (by kernel_rfl) (by kernel_rfl) (fun _ _ _ _ h => h) rfl rfl ?_
      refine m_take_no (j := 10) (t := 37) 15 rfl rfl rfl rfl rfl rfl (by kernel_rfl) (by kernel_rfl) (by kernel_rfl) (fun _ _ _ _ h => h) rfl rfl ?_
      refine m_take_no (j := 10) (t := 37) 16 rfl rfl rfl rfl rfl rfl (by kernel_rfl) (by kernel_rfl) (by kernel_rfl) (fun _ _ _ _ h => h) rfl rfl ?_
      refine m_take_no (j := 10) (t := 37) 17 rfl rfl rfl rfl rfl rfl (by kernel_rfl) (by kernel_rfl) (by kernel_rfl) (fun _ _ _ _ h => h) rfl rfl ?_
      refine m_take_no (j := 10) (t := 37) 18 rfl rfl rfl rfl rfl rfl (by kernel_rfl) (by kernel_rfl) (by kernel_rfl) (fun _ _ _ _ h => h) rfl rfl ?_
      refine m_take_no (j := 10) (t := 37) 19 rfl rfl rfl rfl rfl rfl (by kernel_rfl) (by kernel_rfl) (by kernel_rfl) (fun _ _ _ _ h => h) rfl rfl ?_
      refine m_take_no (j := 10) (t := 37) 20 rfl rfl rfl rfl rfl rfl (by kernel_rfl) (by kernel_rfl) (by kernel_rfl) (fun _ _ _ _ h => h) rfl rfl ?_
      refine m_take_no (j := 10) (t := 37) 21 rfl rfl rfl rfl rfl rfl (by kernel_rfl) (by kernel_rfl) (by kernel_rfl) (fun _ _ _ _ h => h) rfl rfl ?_
      refine m_tk 22 false rfl rfl (by kernel_rfl) (v_pick_t rfl rfl) rfl rfl ?_
      refine m_done (by kernel_rfl) ?_
      refine g_next hK16 ?_
      first | refine g_keep [0, 49] [3, 5] [3, 5] (keep_cons rfl (keep_cons rfl keep_nil)) (lkeep_cons rfl (lkeep_cons rfl lkeep_nil)) (keep_cons rfl (keep_cons rfl keep_nil)) rfl ?_ | refine g_keep [0, 49] [3, 5] [3, 5] rfl rfl rfl rfl ?_
      refine g_cond rfl (fun _ => ?_) (fun h => by cases h)
      refine g_seq (fun K18 hK18 => ?_)
      refine g_region ?_
      refine g_step rfl (s_val (v_assign rfl) rfl rfl ?_)
      refine g_nil ?_
      refine g_next hK18 ?_
      refine g_ret ?_
      refine g_then_ret ?_
      have hN : bootW s i x = (s, false) := by rw [hB]; exact if_neg (fun h9 => hst h9.2.2.2)
      refine g_end1 (.inl rfl) Try.results97 (.tmp rfl) [] (ASub.refl _) (AHeap.sub_refl _) (fun p hp => by cases hp) ⟨by rw [hN]; rfl, h, EffTo.refl _ _, by rw [hN]; exact ⟨tr, cr, mr, pt, rs, ls, hA, htl⟩⟩
     ·
      try simp only [NM] at hg37
      refine m_takel_yes (j := 10) (t := 37) 11 rfl rfl rfl rfl rfl (by kernel_rfl) (by kernel_rfl) (by kernel_rfl) (fun _ _ _ _ h => h) (vl_fieldAddr ty46 fo46_1 ty3 rfl) rfl rfl ?_
      refine m_take_yes (j := 10) (t := 37) 12 true rfl rfl rfl rfl rfl (by kernel_rfl) (by kernel_rfl) (by kernel_rfl) (fun _ _ _ _ h => h) (v_loadl ty3 rfl rfl rfl rfl) rfl rfl ?_
      refine m_take_yes (j := 10) (t := 37) 13 false rfl rfl rfl rfl rfl (by kernel_rfl) (by kernel_rfl) (by kernel_rfl) (fun _ _ _ _ h => h) (v_move rfl) rfl rfl ?_
      refine m_take_yes (j := 10) (t := 37) 14 false rfl rfl rfl rfl rfl (by kernel_rfl) (by kernel_rfl) (by kernel_rfl) (fun _ _ _ _ h => h) (v_nilCheck rfl rfl) rfl rfl ?_
      refine m_take_yes (j := 10) (t := 37) 15 false rfl rfl rfl rfl rfl (by kernel_rfl) (by kernel_rfl) (by kernel_rfl) (fun _ _ _ _ h => h) (by first | exact v_fieldAddr ty125 fo125_2 ty71 rfl | exact v_fieldAddr_box ty125 fo125_2 ty71 rfl) rfl rfl ?_
      refine m_take_yes (j := 10) (t := 37) 16 true rfl rfl rfl rfl rfl (by kernel_rfl) (by kernel_rfl) (by kernel_rfl) (fun _ _ _ _ h => h) (by first | exact v_load ty71 rfl rfl (by first | rfl | assumption) (by first | assumption | exact map_get (by assumption) | rfl) rfl | exact v_load_box ty71 rfl rfl hww (by rfl)) rfl rfl ?_
      refine m_takel_yes (j := 10) (t := 37) 17 rfl rfl rfl rfl rfl (by kernel_rfl) (by kernel_rfl) (by kernel_rfl) (fun _ _ _ _ h => h) (vl_fieldAddr ty87 fo87_1 ty3 rfl) rfl rfl ?_
      refine m_take_yes (j := 10) (t := 37) 18 true rfl rfl rfl rfl rfl (by kernel_rfl) (by kernel_rfl) (by kernel_rfl) (fun _ _ _ _ h => h) (v_loadl ty3 rfl rfl rfl rfl) rfl rfl ?_
      refine m_take_yes (j := 10) (t := 37) 19 false rfl rfl rfl rfl rfl (by kernel_rfl) (by kernel_rfl) (by kernel_rfl) (fun _ _ _ _ h => h) (v_indexAddr ty71 ty3 rfl rfl hVc hxi (map_get hcl) rfl) rfl rfl ?_
      refine m_take_yes (j := 10) (t := 37) 20 true rfl rfl rfl rfl rfl (by kernel_rfl) (by kernel_rfl) (by kernel_rfl) (fun _ _ _ _ h => h) (by first | exact v_load ty3 rfl rfl hVc (map_get hcl) rfl | exact v_load_box ty3 rfl rfl (by assumption) rfl) rfl rfl ?_
      refine m_take_yes (j := 10) (t := 37) 21 false rfl rfl rfl rfl rfl (by kernel_rfl) (by kernel_rfl) (by kernel_rfl) (fun _ _ _ _ h => h) (v_lss rfl rfl) rfl rfl ?_
      refine m_tk 22 false rfl rfl (by kernel_rfl) (v_pick_f rfl rfl) rfl rfl ?_
      refine m_done (by kernel_rfl) ?_
      refine g_next hK16 ?_
      first | refine g_keep [0, 49] [3, 5] [3, 5] (keep_cons rfl (keep_cons rfl keep_nil)) (lkeep_cons rfl (lkeep_cons rfl lkeep_nil)) (keep_cons rfl (keep_cons rfl keep_nil)) rfl ?_ | refine g_keep [0, 49] [3, 5] [3, 5] rfl rfl rfl rfl ?_
      refine g_cond rfl (fun hc49 => ?_) (fun hc49 => ?_)
      ·
       try simp only [NM] at hc49
       refine g_seq (fun K19 hK19 => ?_)
       refine g_region ?_
       refine g_step rfl (s_val (v_assign rfl) rfl rfl ?_)
       refine g_nil ?_
       refine g_next hK19 ?_
       refine g_ret ?_
       refine g_then_ret ?_
       have hN : bootW s i x = (s, false) := by rw [hB]; exact if_neg (fun h9 => hst h9.2.2.2)
       refine g_end1 (.inl rfl) Try.results97 (.tmp rfl) [] (ASub.refl _) (AHeap.sub_refl _) (fun p hp => by cases hp) ⟨by rw [hN]; rfl, h, EffTo.refl _ _, by rw [hN]; exact ⟨tr, cr, mr, pt, rs, ls, hA, htl⟩⟩
      ·
       try simp only [NM] at hc49
       have hN : bootW s i x = (s, false) := by rw [hB]; exact if_neg (fun h9 => hst h9.2.2.2)
       refine g_skip ?_
       refine g_next hK15 ?_
       refine g_seq (fun K20 hK20 => ?_)
       refine g_draw (n := 12) (fun j => !([] : List Nat).contains j) rfl rfl ?_
       refine m_tk 0 true rfl rfl (by kernel_rfl) (by first | exact v_loadl_all ty46 rfl rfl rfl rfl rfl | exact v_loadl_part (cs := [_, _, _, _, _, _, _]) ty46 rfl rfl rfl rfl rfl rfl) rfl rfl ?_
       refine m_tk 2 false rfl rfl (by kernel_rfl) (v_move rfl) rfl rfl ?_
       refine m_tk 3 false rfl rfl (by kernel_rfl) (v_nilCheck rfl rfl) rfl rfl ?_
       refine m_tk 4 false rfl rfl (by kernel_rfl) (by first | exact v_fieldAddr ty125 fo125_0 ty3 rfl | exact v_fieldAddr_box ty125 fo125_0 ty3 rfl) rfl rfl ?_
       refine m_tk 5 true rfl rfl (by kernel_rfl) (by first | exact v_load ty3 rfl rfl (by first | rfl | assumption) (by first | assumption | exact map_get (by assumption) | rfl) rfl | exact v_load_box ty3 rfl rfl hww (by rfl)) rfl rfl ?_
       refine m_one 1 (by kernel_rfl) rfl rfl ?_
       refine sm_callp rfl rfl rfl (core_ok _ _) ?_
       rintro _ rfl
       refine m_one 6 (by kernel_rfl) rfl rfl ?_
       refine sm_callp rfl rfl rfl (begin1_ok (core r) room _ small0 (.inr hst)) ?_
       rintro _ rfl
       refine m_tk 7 false rfl rfl (by kernel_rfl) (v_move rfl) rfl rfl ?_
       refine m_tk 8 false rfl rfl (by kernel_rfl) (v_extract rfl rfl) rfl rfl ?_
       refine m_tk 9 false rfl rfl (by kernel_rfl) (v_extract rfl rfl) rfl rfl ?_
       refine m_tk 10 false rfl rfl (by kernel_rfl) (v_assign rfl) rfl rfl ?_
       refine m_tk 11 false rfl rfl (by kernel_rfl) (v_assign rfl) rfl rfl ?_
       refine m_done (by kernel_rfl) ?_
       refine g_next hK20 ?_
       refine g_seq (fun K21 hK21 => ?_)
       refine g_seq (fun K22 hK22 => ?_)
       refine g_region ?_
       refine g_step rfl (s_val (v_move rfl) rfl rfl ?_)
       refine g_step rfl (s_val (v_neq rfl rfl) rfl rfl ?_)
       refine g_nil ?_
       refine g_next hK22 ?_
       refine g_cond rfl (fun hc61 => ?_) (fun hc61 => ?_)
       ·
        try simp only [NM] at hc61
        refine g_seq (fun K23 hK23 => ?_)
        refine g_region ?_
        refine g_step rfl (s_val (v_assign rfl) rfl rfl ?_)
        refine g_nil ?_
        refine g_next hK23 ?_
        refine g_ret ?_
        refine g_then_ret ?_
        refine g_end1 (.inl rfl) Try.results97 (.tmp rfl) [] (ASub.refl _) (AHeap.sub_refl _) (fun p hp => by cases hp) ⟨by rw [hN]; rfl, h, EffTo.refl _ _, by rw [hN]; exact ⟨tr, cr, mr, pt, rs, ls, hA, htl⟩⟩
       · exfalso; (try simp only [NM] at hc61); simp at hc61

end Go.Proofs.Ytgipbhfblmblcaa

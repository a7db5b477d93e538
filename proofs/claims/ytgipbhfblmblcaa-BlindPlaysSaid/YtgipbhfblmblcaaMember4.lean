import Derived.Test.YtgipbhfblmblcaaMember2
import Derived.Test.YtgipbhfblmblcaaPMember2
set_option maxHeartbeats 8000000
set_option linter.unusedSimpArgs false
set_option linter.unusedVariables false
set_option maxRecDepth 100000
namespace Go.Proofs.Ytgipbhfblmblcaa
open Go Go.Proofs.Ytgipbhfblmblcaa.AM
theorem do25_ok (me room : Int) (l : List Rc) (a : Ac) (G : AHeap) (hm : MInv me room l) (hb : Small a.rc.bag) : PCalls Try.prog 30 [mdl me room l, encAc a] G (fun v => v = .tup [mdl me room (doL me room l a).1, .int .i64 (doL me room l a).2]) := by
 refine LCalls.intro 218 fi30 rfl Try.ntmps30 rfl (fun _ h => h.elim) (fun H hH w0 hw0 => ?_)
 obtain ⟨o, ho⟩ := hm.o
 have hro : (rfind l me).1 = o := by rw [rfind_fst, ho]; rfl
 have hs := hm.b
 have hlen := hm.len
 have hso := hs o (fnd_in ho)
 have ho9 := recValid_ids (hm.valid ho)
 have hsY : Small (rfind l a.rc.id).1.bag := rfind_small hs
 have r9 : ¬ (recValid a.rc = false) → recValid a.rc = true := fun h => by simpa using h
 refine g_seq (fun K0 hK0 => ?_)
 refine g_region ?_
 refine g_step rfl (s_box rfl rfl rfl rfl ?_)
 refine g_step rfl (s_box rfl rfl rfl rfl ?_)
 refine g_step rfl (s_alloc (av := (.agg [(.int .i64 0), (.int .i64 0), .nil0])) ty61 rfl rfl rfl rfl ?_)
 refine g_step rfl (s_val (v_assign rfl) rfl rfl ?_)
 refine g_nil ?_
 refine g_next hK0 ?_
 refine g_seq (fun K1 hK1 => ?_)
 refine g_region ?_
 refine g_step rfl (s_fieldAddr ty61 fo61_2 ty22 rfl rfl ?_)
 refine g_step rfl (s_val (v_loadl ty22 rfl rfl rfl rfl) rfl rfl ?_)
 refine g_step rfl (s_fieldAddr ty61 fo61_0 ty3 rfl rfl ?_)
 refine g_step rfl (s_val (v_loadl ty3 rfl rfl rfl rfl) rfl rfl ?_)
 refine g_step rfl (s_callp rfl rfl rfl (find_ok l me _ _ rfl (by omega) hs) ?_)
 rintro _ rfl
 rw [hro]
 refine g_step rfl (s_val (v_move rfl) rfl rfl ?_)
 refine g_step rfl (s_val (v_extract rfl rfl) rfl rfl ?_)
 refine g_step rfl (s_val (v_extract rfl rfl) rfl rfl ?_)
 refine g_step rfl (s_alloc (av := (.agg [(.int .i64 0), (.int .i64 0), (.int .i64 0), (.int .i64 0), (.int .i64 0), (.bool false), .nil0])) ty46 rfl rfl rfl rfl ?_)
 refine g_step rfl (s_store_all ty46 rfl rfl rfl rfl rfl rfl ?_)
 refine g_step rfl (s_val (v_assign rfl) rfl rfl ?_)
 refine g_nil ?_
 refine g_next hK1 ?_
 refine g_seq (fun K2 hK2 => ?_)
 refine g_region ?_
 refine g_step rfl (s_fieldAddr ty61 fo61_2 ty22 rfl rfl ?_)
 refine g_step rfl (s_val (v_loadl ty22 rfl rfl rfl rfl) rfl rfl ?_)
 refine g_step rfl (s_fieldAddr ty65 fo65_1 ty46 rfl rfl ?_)
 refine g_step rfl (s_fieldAddr ty46 fo46_0 ty3 rfl rfl ?_)
 refine g_step rfl (s_val (v_loadl ty3 rfl rfl rfl rfl) rfl rfl ?_)
 refine g_step rfl (s_callp rfl rfl rfl (find_ok l a.rc.id _ _ rfl (by omega) hs) ?_)
 rintro _ rfl
 refine g_step rfl (s_val (v_move rfl) rfl rfl ?_)
 refine g_step rfl (s_val (v_extract rfl rfl) rfl rfl ?_)
 refine g_step rfl (s_val (v_extract rfl rfl) rfl rfl ?_)
 refine g_step rfl (s_alloc (av := (.agg [(.int .i64 0), (.int .i64 0), (.int .i64 0), (.int .i64 0), (.int .i64 0), (.bool false), .nil0])) ty46 rfl rfl rfl rfl ?_)
 refine g_step rfl (s_store_all ty46 rfl rfl rfl rfl rfl rfl ?_)
 refine g_step rfl (s_val (v_assign rfl) rfl rfl ?_)
 refine g_nil ?_
 refine g_next hK2 ?_
 refine g_cut (fun env L B G => env = [(9, .bool (rfind l a.rc.id).2)] ∧ L = [(2, 2, 0), (3, 3, 0), (4, 4, 0), (6, 6, 0), (8, 8, 0), (10, 10, 0)] ∧ B = [(2, (mdl me room l)), (3, (encAc a)), (4, (.agg [.int .i64 0, .int .i64 0, .nil0])), (6, (encR o)), (8, (encR (rfind l a.rc.id).1)), (10, (mdl me room l))] ∧ H = G) ?_ (fun env L B G hI => ?_)
 ·
  refine g_draw (n := 10) (fun j => !([9] : List Nat).contains j) rfl rfl ?_
  refine m_takel 0 rfl rfl (by kernel_rfl) (by kernel_rfl) (by kernel_rfl) (fun _ _ _ _ h => h) (vl_fieldAddr ty61 fo61_0 ty3 rfl) rfl rfl ?_
  refine m_tk 1 true rfl rfl (by kernel_rfl) (v_loadl ty3 rfl rfl rfl rfl) rfl rfl ?_
  refine m_takel 2 rfl rfl (by kernel_rfl) (by kernel_rfl) (by kernel_rfl) (fun _ _ _ _ h => h) (vl_fieldAddr ty61 fo61_1 ty3 rfl) rfl rfl ?_
  refine m_tk 3 true rfl rfl (by kernel_rfl) (v_loadl ty3 rfl rfl rfl rfl) rfl rfl ?_
  refine m_takel 4 rfl rfl (by kernel_rfl) (by kernel_rfl) (by kernel_rfl) (fun _ _ _ _ h => h) (vl_fieldAddr ty61 fo61_2 ty22 rfl) rfl rfl ?_
  refine m_tk 5 true rfl rfl (by kernel_rfl) (v_loadl ty22 rfl rfl rfl rfl) rfl rfl ?_
  refine m_all (is := [6, 8]) (by kernel_rfl) rfl (fun _ _ _ => trivial) (fun i hi => ?_)
  rcases (by simpa using hi : i = 6 ∨ i = 8) with rfl | rfl
  ·
   refine ⟨_, rfl, .inl ⟨rfl, ?_⟩⟩
   refine sm_callp rfl rfl rfl (recCopy_ok l _ _ rfl (by omega) hs) ?_
   rintro _ rfl
   refine m_tk 7 false rfl rfl (by kernel_rfl) (v_build (vs := [(0, _), (1, _), (2, _)]) (zs := [(.int .i64 0), (.int .i64 0), .nil0]) (cells := [_, _, _]) ty61 pl61 rfl rfl rfl) rfl rfl ?_
   refine m_one 8 (by kernel_rfl) rfl rfl ?_
   refine sm_alloc (av := (.agg [(.int .i64 0), (.int .i64 0), .nil0])) ty61 rfl rfl rfl rfl ?_
   refine m_one 9 (by kernel_rfl) rfl rfl ?_
   refine sm_any rfl (s_store_all ty61 rfl rfl rfl rfl rfl rfl ?_)
   refine m_done (by kernel_rfl) ?_
   first | refine g_keep [9] [2, 3, 4, 6, 8, 10] [2, 3, 4, 6, 8, 10] (keep_cons rfl keep_nil) (lkeep_cons rfl (lkeep_cons rfl (lkeep_cons rfl (lkeep_cons rfl (lkeep_cons rfl (lkeep_cons rfl lkeep_nil)))))) (keep_cons rfl (keep_cons rfl (keep_cons rfl (keep_cons rfl (keep_cons rfl (keep_cons rfl keep_nil)))))) rfl ?_ | refine g_keep [9] [2, 3, 4, 6, 8, 10] [2, 3, 4, 6, 8, 10] rfl rfl rfl rfl ?_
   exact g_has ⟨rfl, rfl, rfl, rfl⟩
  ·
   refine ⟨_, rfl, .inl ⟨rfl, ?_⟩⟩
   refine sm_alloc (av := (.agg [(.int .i64 0), (.int .i64 0), .nil0])) ty61 rfl rfl rfl rfl ?_
   refine m_one 6 (by kernel_rfl) rfl rfl ?_
   refine sm_callp rfl rfl rfl (recCopy_ok l _ _ rfl (by omega) hs) ?_
   rintro _ rfl
   refine m_tk 7 false rfl rfl (by kernel_rfl) (v_build (vs := [(0, _), (1, _), (2, _)]) (zs := [(.int .i64 0), (.int .i64 0), .nil0]) (cells := [_, _, _]) ty61 pl61 rfl rfl rfl) rfl rfl ?_
   refine m_one 9 (by kernel_rfl) rfl rfl ?_
   refine sm_any rfl (s_store_all ty61 rfl rfl rfl rfl rfl rfl ?_)
   refine m_done (by kernel_rfl) ?_
   first | refine g_keep [9] [2, 3, 4, 6, 8, 10] [2, 3, 4, 6, 8, 10] (keep_cons rfl keep_nil) (lkeep_cons rfl (lkeep_cons rfl (lkeep_cons rfl (lkeep_cons rfl (lkeep_cons rfl (lkeep_cons rfl lkeep_nil)))))) (keep_cons rfl (keep_cons rfl (keep_cons rfl (keep_cons rfl (keep_cons rfl (keep_cons rfl keep_nil)))))) rfl ?_ | refine g_keep [9] [2, 3, 4, 6, 8, 10] [2, 3, 4, 6, 8, 10] rfl rfl rfl rfl ?_
   exact g_has ⟨rfl, rfl, rfl, rfl⟩
 ·
  obtain ⟨rfl, rfl, rfl, rfl⟩ := hI
  refine g_seq (fun K3 hK3 => ?_)
  refine g_seq (fun K4 hK4 => ?_)
  refine g_region ?_
  refine g_step rfl (s_fieldAddr ty65 fo65_0 ty3 rfl rfl ?_)
  refine g_step rfl (s_val (v_loadl ty3 rfl rfl rfl rfl) rfl rfl ?_)
  refine g_step rfl (s_val (v_eql rfl rfl) rfl rfl ?_)
  refine g_nil ?_
  refine g_next hK4 ?_
  refine g_cond rfl (fun hc41 => ?_) (fun hc41 => ?_)
  ·
   try simp only [NM] at hc41
   have hk0 : a.k = 0 := by omega
   refine g_seq (fun K5 hK5 => ?_)
   refine g_seq (fun K6 hK6 => ?_)
   refine g_region ?_
   refine g_step rfl (s_fieldAddr ty65 fo65_1 ty46 rfl rfl ?_)
   refine g_step rfl (s_val (v_loadl_part (cs := [_, _, _, _, _, _, _]) ty46 rfl rfl rfl rfl rfl rfl) rfl rfl ?_)
   refine g_step rfl (s_callp rfl rfl rfl (recValid_ok a.rc _ hb) ?_)
   rintro _ rfl
   refine g_step rfl (s_val (v_not rfl) rfl rfl ?_)
   refine g_nil ?_
   refine g_next hK6 ?_
   refine g_cond rfl (fun hc45 => ?_) (fun hc45 => ?_)
   ·
    try simp only [NM] at hc45
    refine g_seq (fun K7 hK7 => ?_)
    refine g_region ?_
    have hR : doL me room l a = (l, 0) := by rw [doL, if_pos hk0, joinT]; exact if_pos (by simp_all)
    refine g_step rfl (s_val (by first | exact v_loadl_all ty61 rfl rfl rfl rfl rfl | exact v_loadl_part (cs := [_, _, _]) ty61 rfl rfl rfl rfl rfl rfl) rfl rfl ?_)
    refine g_step rfl (s_store_all ty61 rfl rfl rfl rfl rfl rfl ?_)
    refine g_step rfl (s_val (v_assign rfl) rfl rfl ?_)
    refine g_nil ?_
    refine g_next hK7 ?_
    refine g_ret ?_
    refine g_then_ret ?_
    refine g_then_ret ?_
    refine g_end2 (.inl rfl) Try.results30 (.agg ty61 rfl rfl rfl rfl rfl) (.tmp rfl) [] (ASub.refl _) (AHeap.sub_refl _) (fun p hp => by cases hp) ⟨rfl, ?_⟩
    first | (rw [hR]; rfl; done) | (rw [hR]; rfl; rfl)
   ·
    try simp only [NM] at hc45
    refine g_skip ?_
    refine g_next hK5 ?_
    refine g_seq (fun K8 hK8 => ?_)
    refine g_seq (fun K9 hK9 => ?_)
    refine g_region ?_
    have hv : ¬ (recValid a.rc = false) := by simp_all
    have hx9 := recValid_ids (r9 hv)
    refine g_step rfl (s_fieldAddr ty65 fo65_1 ty46 rfl rfl ?_)
    refine g_step rfl (s_fieldAddr ty46 fo46_0 ty3 rfl rfl ?_)
    refine g_step rfl (s_val (v_loadl ty3 rfl rfl rfl rfl) rfl rfl ?_)
    refine g_step rfl (s_fieldAddr ty61 fo61_0 ty3 rfl rfl ?_)
    refine g_step rfl (s_val (v_loadl ty3 rfl rfl rfl rfl) rfl rfl ?_)
    refine g_step rfl (s_val (v_eql rfl rfl) rfl rfl ?_)
    refine g_nil ?_
    refine g_next hK9 ?_
    refine g_cond rfl (fun hc52 => ?_) (fun hc52 => ?_)
    ·
     try simp only [NM] at hc52
     have hid : a.rc.id = me := by omega
     refine g_seq (fun K10 hK10 => ?_)
     refine g_region ?_
     refine g_step rfl (s_fieldAddr ty65 fo65_1 ty46 rfl rfl ?_)
     refine g_step rfl (s_fieldAddr ty46 fo46_1 ty3 rfl rfl ?_)
     refine g_step rfl (s_val (v_loadl ty3 rfl rfl rfl rfl) rfl rfl ?_)
     refine g_step rfl (s_fieldAddr ty46 fo46_1 ty3 rfl rfl ?_)
     refine g_step rfl (s_val (v_loadl ty3 rfl rfl rfl rfl) rfl rfl ?_)
     refine g_step rfl (s_val (v_gtr rfl rfl) rfl rfl ?_)
     refine g_step rfl (s_val (v_move rfl) rfl rfl ?_)
     refine g_split 59 rfl (fun hg59 => ?_) (fun hg59 => ?_)
     ·
      try simp only [NM] at hg59
      refine g_step_no (j := 6) (t := 59) rfl rfl rfl rfl rfl rfl rfl ?_
      refine g_step_no (j := 6) (t := 59) rfl rfl rfl rfl rfl rfl rfl ?_
      refine g_step_no (j := 6) (t := 59) rfl rfl rfl rfl rfl rfl rfl ?_
      refine g_step_no (j := 6) (t := 59) rfl rfl rfl rfl rfl rfl rfl ?_
      refine g_step_no (j := 6) (t := 59) rfl rfl rfl rfl rfl rfl rfl ?_
      refine g_step_no (j := 6) (t := 59) rfl rfl rfl rfl rfl rfl rfl ?_
      refine g_step_no (j := 6) (t := 59) rfl rfl rfl rfl rfl rfl rfl ?_
      refine g_step_und (j := 13) (t := 66) rfl rfl rfl rfl rfl rfl ?_
      refine g_step_und (j := 13) (t := 66) rfl rfl rfl rfl rfl rfl ?_
      refine g_step_und (j := 13) (t := 66) rfl rfl rfl rfl rfl rfl ?_
      refine g_step_und (j := 13) (t := 66) rfl rfl rfl rfl rfl rfl ?_
      refine g_step_no (j := 6) (t := 59) rfl rfl rfl rfl rfl rfl rfl ?_
      refine g_step rfl (s_val (v_pick_t rfl rfl) rfl rfl ?_)
      refine g_step rfl (s_val (v_assign rfl) rfl rfl ?_)
      refine g_nil ?_
      refine g_next hK10 ?_
      first | refine g_keep [11] [2, 3, 4, 6, 10] [2, 3, 4, 6, 10] (keep_cons rfl keep_nil) (lkeep_cons rfl (lkeep_cons rfl (lkeep_cons rfl (lkeep_cons rfl (lkeep_cons rfl lkeep_nil))))) (keep_cons rfl (keep_cons rfl (keep_cons rfl (keep_cons rfl (keep_cons rfl keep_nil))))) rfl ?_ | refine g_keep [11] [2, 3, 4, 6, 10] [2, 3, 4, 6, 10] rfl rfl rfl rfl ?_
      refine g_seq (fun K11 hK11 => ?_)
      refine g_seq (fun K12 hK12 => ?_)
      refine g_region ?_
      refine g_step rfl (s_val (v_move rfl) rfl rfl ?_)
      refine g_step rfl (s_val (v_not rfl) rfl rfl ?_)
      refine g_step rfl (s_val (v_move rfl) rfl rfl ?_)
      refine g_split 75 rfl (fun hg75 => ?_) (fun hg75 => ?_)
      ·
       try simp only [NM] at hg75
       refine g_step_no (j := 2) (t := 75) rfl rfl rfl rfl rfl rfl rfl ?_
       refine g_step_no (j := 2) (t := 75) rfl rfl rfl rfl rfl rfl rfl ?_
       refine g_step_no (j := 2) (t := 75) rfl rfl rfl rfl rfl rfl rfl ?_
       refine g_step rfl (s_val (v_pick_t rfl rfl) rfl rfl ?_)
       refine g_step rfl (s_val (v_move rfl) rfl rfl ?_)
       refine g_step_no (j := 7) (t := 80) rfl rfl rfl rfl rfl rfl rfl ?_
       refine g_step_no (j := 7) (t := 80) rfl rfl rfl rfl rfl rfl rfl ?_
       refine g_step_no (j := 7) (t := 80) rfl rfl rfl rfl rfl rfl rfl ?_
       refine g_step_no (j := 7) (t := 80) rfl rfl rfl rfl rfl rfl rfl ?_
       refine g_step rfl (s_val (v_pick_t rfl rfl) rfl rfl ?_)
       refine g_nil ?_
       refine g_next hK12 ?_
       refine g_cond rfl (fun _ => ?_) (fun h => by cases h)
       refine g_seq (fun K13 hK13 => ?_)
       refine g_region ?_
       have hR : doL me room l a = (l, 0) := by first | (rw [doL, if_pos hk0, joinT, if_neg hv, if_pos hid, refT, ho]; exact if_pos (by omega)) | (exfalso; simp_all; done) | (exfalso; simp_all; omega)
       refine g_step rfl (s_val (by first | exact v_loadl_all ty61 rfl rfl rfl rfl rfl | exact v_loadl_part (cs := [_, _, _]) ty61 rfl rfl rfl rfl rfl rfl) rfl rfl ?_)
       refine g_step rfl (s_store_all ty61 rfl rfl rfl rfl rfl rfl ?_)
       refine g_step rfl (s_val (v_assign rfl) rfl rfl ?_)
       refine g_nil ?_
       refine g_next hK13 ?_
       refine g_ret ?_
       refine g_then_ret ?_
       refine g_then_ret ?_
       refine g_then_ret ?_
       refine g_end2 (.inl rfl) Try.results30 (.agg ty61 rfl rfl rfl rfl rfl) (.tmp rfl) [] (ASub.refl _) (AHeap.sub_refl _) (fun p hp => by cases hp) ⟨rfl, ?_⟩
       first | (rw [hR]; rfl; done) | (rw [hR]; rfl; rfl)
      ·
       try simp only [NM] at hg75
       refine g_step_yes (j := 2) (t := 75) rfl rfl rfl rfl (s_fieldAddr ty46 fo46_2 ty3 rfl rfl ?_)
       refine g_step_yes (j := 2) (t := 75) rfl rfl rfl rfl (s_val (v_loadl ty3 rfl rfl rfl rfl) rfl rfl ?_)
       refine g_step_yes (j := 2) (t := 75) rfl rfl rfl rfl (s_val (v_eql rfl rfl) rfl rfl ?_)
       refine g_step rfl (s_val (v_pick_f rfl rfl) rfl rfl ?_)
       refine g_step rfl (s_val (v_move rfl) rfl rfl ?_)
       refine g_split 80 rfl (fun hg80 => ?_) (fun hg80 => ?_)
       ·
        try simp only [NM] at hg80
        refine g_step_no (j := 7) (t := 80) rfl rfl rfl rfl rfl rfl rfl ?_
        refine g_step_no (j := 7) (t := 80) rfl rfl rfl rfl rfl rfl rfl ?_
        refine g_step_no (j := 7) (t := 80) rfl rfl rfl rfl rfl rfl rfl ?_
        refine g_step_no (j := 7) (t := 80) rfl rfl rfl rfl rfl rfl rfl ?_
        refine g_step rfl (s_val (v_pick_t rfl rfl) rfl rfl ?_)
        refine g_nil ?_
        refine g_next hK12 ?_
        refine g_cond rfl (fun _ => ?_) (fun h => by cases h)
        refine g_seq (fun K14 hK14 => ?_)
        refine g_region ?_
        have hR : doL me room l a = (l, 0) := by first | (rw [doL, if_pos hk0, joinT, if_neg hv, if_pos hid, refT, ho]; exact if_pos (by omega)) | (exfalso; simp_all; done) | (exfalso; simp_all; omega)
        refine g_step rfl (s_val (by first | exact v_loadl_all ty61 rfl rfl rfl rfl rfl | exact v_loadl_part (cs := [_, _, _]) ty61 rfl rfl rfl rfl rfl rfl) rfl rfl ?_)
        refine g_step rfl (s_store_all ty61 rfl rfl rfl rfl rfl rfl ?_)
        refine g_step rfl (s_val (v_assign rfl) rfl rfl ?_)
        refine g_nil ?_
        refine g_next hK14 ?_
        refine g_ret ?_
        refine g_then_ret ?_
        refine g_then_ret ?_
        refine g_then_ret ?_
        refine g_end2 (.inl rfl) Try.results30 (.agg ty61 rfl rfl rfl rfl rfl) (.tmp rfl) [] (ASub.refl _) (AHeap.sub_refl _) (fun p hp => by cases hp) ⟨rfl, ?_⟩
        first | (rw [hR]; rfl; done) | (rw [hR]; rfl; rfl)
       ·
        try simp only [NM] at hg80
        refine g_step_yes (j := 7) (t := 80) rfl rfl rfl rfl (s_fieldAddr ty65 fo65_1 ty46 rfl rfl ?_)
        refine g_step_yes (j := 7) (t := 80) rfl rfl rfl rfl (s_fieldAddr ty46 fo46_1 ty3 rfl rfl ?_)
        refine g_step_yes (j := 7) (t := 80) rfl rfl rfl rfl (s_val (v_loadl ty3 rfl rfl rfl rfl) rfl rfl ?_)
        refine g_step_yes (j := 7) (t := 80) rfl rfl rfl rfl (s_val (v_geq rfl rfl) rfl rfl ?_)
        refine g_step rfl (s_val (v_pick_f rfl rfl) rfl rfl ?_)
        refine g_nil ?_
        refine g_next hK12 ?_
        refine g_cond rfl (fun hc85 => ?_) (fun hc85 => ?_)
        ·
         try simp only [NM] at hc85
         refine g_seq (fun K15 hK15 => ?_)
         refine g_region ?_
         have hR : doL me room l a = (l, 0) := by first | (rw [doL, if_pos hk0, joinT, if_neg hv, if_pos hid, refT, ho]; exact if_pos (by omega)) | (exfalso; simp_all; done) | (exfalso; simp_all; omega)
         refine g_step rfl (s_val (by first | exact v_loadl_all ty61 rfl rfl rfl rfl rfl | exact v_loadl_part (cs := [_, _, _]) ty61 rfl rfl rfl rfl rfl rfl) rfl rfl ?_)
         refine g_step rfl (s_store_all ty61 rfl rfl rfl rfl rfl rfl ?_)
         refine g_step rfl (s_val (v_assign rfl) rfl rfl ?_)
         refine g_nil ?_
         refine g_next hK15 ?_
         refine g_ret ?_
         refine g_then_ret ?_
         refine g_then_ret ?_
         refine g_then_ret ?_
         refine g_end2 (.inl rfl) Try.results30 (.agg ty61 rfl rfl rfl rfl rfl) (.tmp rfl) [] (ASub.refl _) (AHeap.sub_refl _) (fun p hp => by cases hp) ⟨rfl, ?_⟩
         first | (rw [hR]; rfl; done) | (rw [hR]; rfl; rfl)
        ·
         try simp only [NM] at hc85
         refine g_skip ?_
         refine g_next hK11 ?_
         refine g_seq (fun K16 hK16 => ?_)
         refine g_region ?_
         have hR : doL me room l a = (rput l (wthInc o (a.rc.inc + 1)), 4) := by first | (rw [doL, if_pos hk0, joinT, if_neg hv, if_pos hid, refT, ho]; exact if_neg (by omega)) | (exfalso; simp_all; done) | (exfalso; simp_all; omega)
         refine g_step rfl (s_fieldAddr ty65 fo65_1 ty46 rfl rfl ?_)
         refine g_step rfl (s_fieldAddr ty46 fo46_1 ty3 rfl rfl ?_)
         refine g_step rfl (s_val (v_loadl ty3 rfl rfl rfl rfl) rfl rfl ?_)
         refine g_step rfl (s_val (v_add rfl rfl (by omega)) rfl rfl ?_)
         refine g_step rfl (s_fieldAddr ty46 fo46_1 ty3 rfl rfl ?_)
         refine g_step rfl (s_store (new := (encR (wthInc o (a.rc.inc + 1)))) ty3 rfl rfl rfl rfl rfl rfl rfl ?_)
         refine g_nil ?_
         refine g_next hK16 ?_
         refine g_seq (fun K17 hK17 => ?_)
         refine g_region ?_
         refine g_step rfl (s_fieldAddr ty61 fo61_2 ty22 rfl rfl ?_)
         refine g_step rfl (s_val (v_loadl ty22 rfl rfl rfl rfl) rfl rfl ?_)
         refine g_step rfl (s_val (by first | exact v_loadl_all ty46 rfl rfl rfl rfl rfl | exact v_loadl_part (cs := [_, _, _, _, _, _, _]) ty46 rfl rfl rfl rfl rfl rfl) rfl rfl ?_)
         refine g_step rfl (s_callp rfl rfl rfl (put_ok l (wthInc o (a.rc.inc + 1)) _ _ rfl (by omega) hs (hso)) ?_)
         rintro _ rfl
         refine g_step rfl (s_fieldAddr ty61 fo61_2 ty22 rfl rfl ?_)
         refine g_step rfl (s_store (new := (mdl me room (rput l (wthInc o (a.rc.inc + 1))))) ty22 rfl rfl rfl rfl rfl rfl rfl ?_)
         refine g_nil ?_
         refine g_next hK17 ?_
         refine g_seq (fun K18 hK18 => ?_)
         refine g_region ?_
         refine g_step rfl (s_val (by first | exact v_loadl_all ty61 rfl rfl rfl rfl rfl | exact v_loadl_part (cs := [_, _, _]) ty61 rfl rfl rfl rfl rfl rfl) rfl rfl ?_)
         refine g_step rfl (s_store_all ty61 rfl rfl rfl rfl rfl rfl ?_)
         refine g_step rfl (s_val (v_assign rfl) rfl rfl ?_)
         refine g_nil ?_
         refine g_next hK18 ?_
         refine g_ret ?_
         refine g_then_ret ?_
         refine g_then_ret ?_
         refine g_end2 (.inl rfl) Try.results30 (.agg ty61 rfl rfl rfl rfl rfl) (.tmp rfl) [] (ASub.refl _) (AHeap.sub_refl _) (fun p hp => by cases hp) ⟨rfl, ?_⟩
         first | (rw [hR]; rfl; done) | (rw [hR]; rfl; rfl)
     ·
      try simp only [NM] at hg59
      refine g_step_yes (j := 6) (t := 59) rfl rfl rfl rfl (s_fieldAddr ty65 fo65_1 ty46 rfl rfl ?_)
      refine g_step_yes (j := 6) (t := 59) rfl rfl rfl rfl (s_fieldAddr ty46 fo46_1 ty3 rfl rfl ?_)
      refine g_step_yes (j := 6) (t := 59) rfl rfl rfl rfl (s_val (v_loadl ty3 rfl rfl rfl rfl) rfl rfl ?_)
      refine g_step_yes (j := 6) (t := 59) rfl rfl rfl rfl (s_fieldAddr ty46 fo46_1 ty3 rfl rfl ?_)
      refine g_step_yes (j := 6) (t := 59) rfl rfl rfl rfl (s_val (v_loadl ty3 rfl rfl rfl rfl) rfl rfl ?_)
      refine g_step_yes (j := 6) (t := 59) rfl rfl rfl rfl (s_val (v_eql rfl rfl) rfl rfl ?_)
      refine g_step_yes (j := 6) (t := 59) rfl rfl rfl rfl (s_val (v_move rfl) rfl rfl ?_)
      refine g_split 66 rfl (fun hg66 => ?_) (fun hg66 => ?_)
      ·
       try simp only [NM] at hg66
       refine g_step_yes (j := 13) (t := 66) rfl rfl rfl rfl (s_fieldAddr ty65 fo65_1 ty46 rfl rfl ?_)
       refine g_step_yes (j := 13) (t := 66) rfl rfl rfl rfl (s_fieldAddr ty46 fo46_2 ty3 rfl rfl ?_)
       refine g_step_yes (j := 13) (t := 66) rfl rfl rfl rfl (s_val (v_loadl ty3 rfl rfl rfl rfl) rfl rfl ?_)
       refine g_step_yes (j := 13) (t := 66) rfl rfl rfl rfl (s_val (v_neq rfl rfl) rfl rfl ?_)
       refine g_step_yes (j := 6) (t := 59) rfl rfl rfl rfl (s_val (v_pick_t rfl rfl) rfl rfl ?_)
       refine g_step rfl (s_val (v_pick_f rfl rfl) rfl rfl ?_)
       refine g_step rfl (s_val (v_assign rfl) rfl rfl ?_)
       refine g_nil ?_
       refine g_next hK10 ?_
       refine g_seq (fun K19 hK19 => ?_)
       refine g_seq (fun K20 hK20 => ?_)
       refine g_region ?_
       refine g_step rfl (s_val (v_move rfl) rfl rfl ?_)
       refine g_step rfl (s_val (v_not rfl) rfl rfl ?_)
       refine g_step rfl (s_val (v_move rfl) rfl rfl ?_)
       refine g_split 75 rfl (fun hg75 => ?_) (fun hg75 => ?_)
       ·
        try simp only [NM] at hg75
        refine g_step_no (j := 2) (t := 75) rfl rfl rfl rfl rfl rfl rfl ?_
        refine g_step_no (j := 2) (t := 75) rfl rfl rfl rfl rfl rfl rfl ?_
        refine g_step_no (j := 2) (t := 75) rfl rfl rfl rfl rfl rfl rfl ?_
        refine g_step rfl (s_val (v_pick_t rfl rfl) rfl rfl ?_)
        refine g_step rfl (s_val (v_move rfl) rfl rfl ?_)
        refine g_step_no (j := 7) (t := 80) rfl rfl rfl rfl rfl rfl rfl ?_
        refine g_step_no (j := 7) (t := 80) rfl rfl rfl rfl rfl rfl rfl ?_
        refine g_step_no (j := 7) (t := 80) rfl rfl rfl rfl rfl rfl rfl ?_
        refine g_step_no (j := 7) (t := 80) rfl rfl rfl rfl rfl rfl rfl ?_
        refine g_step rfl (s_val (v_pick_t rfl rfl) rfl rfl ?_)
        refine g_nil ?_
        refine g_next hK20 ?_
        first | refine g_keep [85] [2, 3, 4, 6, 10] [2, 3, 4, 6, 10] (keep_cons rfl keep_nil) (lkeep_cons rfl (lkeep_cons rfl (lkeep_cons rfl (lkeep_cons rfl (lkeep_cons rfl lkeep_nil))))) (keep_cons rfl (keep_cons rfl (keep_cons rfl (keep_cons rfl (keep_cons rfl keep_nil))))) rfl ?_ | refine g_keep [85] [2, 3, 4, 6, 10] [2, 3, 4, 6, 10] rfl rfl rfl rfl ?_
        refine g_cond rfl (fun _ => ?_) (fun h => by cases h)
        refine g_seq (fun K21 hK21 => ?_)
        refine g_region ?_
        have hR : doL me room l a = (l, 0) := by first | (rw [doL, if_pos hk0, joinT, if_neg hv, if_pos hid, refT, ho]; exact if_pos (by omega)) | (exfalso; simp_all; done) | (exfalso; simp_all; omega)
        refine g_step rfl (s_val (by first | exact v_loadl_all ty61 rfl rfl rfl rfl rfl | exact v_loadl_part (cs := [_, _, _]) ty61 rfl rfl rfl rfl rfl rfl) rfl rfl ?_)
        refine g_step rfl (s_store_all ty61 rfl rfl rfl rfl rfl rfl ?_)
        refine g_step rfl (s_val (v_assign rfl) rfl rfl ?_)
        refine g_nil ?_
        refine g_next hK21 ?_
        refine g_ret ?_
        refine g_then_ret ?_
        refine g_then_ret ?_
        refine g_then_ret ?_
        refine g_end2 (.inl rfl) Try.results30 (.agg ty61 rfl rfl rfl rfl rfl) (.tmp rfl) [] (ASub.refl _) (AHeap.sub_refl _) (fun p hp => by cases hp) ⟨rfl, ?_⟩
        first | (rw [hR]; rfl; done) | (rw [hR]; rfl; rfl)
       ·
        try simp only [NM] at hg75
        refine g_step_yes (j := 2) (t := 75) rfl rfl rfl rfl (s_fieldAddr ty46 fo46_2 ty3 rfl rfl ?_)
        refine g_step_yes (j := 2) (t := 75) rfl rfl rfl rfl (s_val (v_loadl ty3 rfl rfl rfl rfl) rfl rfl ?_)
        refine g_step_yes (j := 2) (t := 75) rfl rfl rfl rfl (s_val (v_eql rfl rfl) rfl rfl ?_)
        refine g_step rfl (s_val (v_pick_f rfl rfl) rfl rfl ?_)
        refine g_step rfl (s_val (v_move rfl) rfl rfl ?_)
        refine g_split 80 rfl (fun hg80 => ?_) (fun hg80 => ?_)
        ·
         try simp only [NM] at hg80
         refine g_step_no (j := 7) (t := 80) rfl rfl rfl rfl rfl rfl rfl ?_
         refine g_step_no (j := 7) (t := 80) rfl rfl rfl rfl rfl rfl rfl ?_
         refine g_step_no (j := 7) (t := 80) rfl rfl rfl rfl rfl rfl rfl ?_
         refine g_step_no (j := 7) (t := 80) rfl rfl rfl rfl rfl rfl rfl ?_
         refine g_step rfl (s_val (v_pick_t rfl rfl) rfl rfl ?_)
         refine g_nil ?_
         refine g_next hK20 ?_
         first | refine g_keep [85] [2, 3, 4, 6, 10] [2, 3, 4, 6, 10] (keep_cons rfl keep_nil) (lkeep_cons rfl (lkeep_cons rfl (lkeep_cons rfl (lkeep_cons rfl (lkeep_cons rfl lkeep_nil))))) (keep_cons rfl (keep_cons rfl (keep_cons rfl (keep_cons rfl (keep_cons rfl keep_nil))))) rfl ?_ | refine g_keep [85] [2, 3, 4, 6, 10] [2, 3, 4, 6, 10] rfl rfl rfl rfl ?_
         refine g_cond rfl (fun _ => ?_) (fun h => by cases h)
         refine g_seq (fun K22 hK22 => ?_)
         refine g_region ?_
         have hR : doL me room l a = (l, 0) := by first | (rw [doL, if_pos hk0, joinT, if_neg hv, if_pos hid, refT, ho]; exact if_pos (by omega)) | (exfalso; simp_all; done) | (exfalso; simp_all; omega)
         refine g_step rfl (s_val (by first | exact v_loadl_all ty61 rfl rfl rfl rfl rfl | exact v_loadl_part (cs := [_, _, _]) ty61 rfl rfl rfl rfl rfl rfl) rfl rfl ?_)
         refine g_step rfl (s_store_all ty61 rfl rfl rfl rfl rfl rfl ?_)
         refine g_step rfl (s_val (v_assign rfl) rfl rfl ?_)
         refine g_nil ?_
         refine g_next hK22 ?_
         refine g_ret ?_
         refine g_then_ret ?_
         refine g_then_ret ?_
         refine g_then_ret ?_
         refine g_end2 (.inl rfl) Try.results30 (.agg ty61 rfl rfl rfl rfl rfl) (.tmp rfl) [] (ASub.refl _) (AHeap.sub_refl _) (fun p hp => by cases hp) ⟨rfl, ?_⟩
         first | (rw [hR]; rfl; done) | (rw [hR]; rfl; rfl)
        ·
         try simp only [NM] at hg80
         refine g_step_yes (j := 7) (t := 80) rfl rfl rfl rfl (s_fieldAddr ty65 fo65_1 ty46 rfl rfl ?_)
         refine g_step_yes (j := 7) (t := 80) rfl rfl rfl rfl (s_fieldAddr ty46 fo46_1 ty3 rfl rfl ?_)
         refine g_step_yes (j := 7) (t := 80) rfl rfl rfl rfl (s_val (v_loadl ty3 rfl rfl rfl rfl) rfl rfl ?_)
         refine g_step_yes (j := 7) (t := 80) rfl rfl rfl rfl (s_val (v_geq rfl rfl) rfl rfl ?_)
         refine g_step rfl (s_val (v_pick_f rfl rfl) rfl rfl ?_)
         refine g_nil ?_
         refine g_next hK20 ?_
         first | refine g_keep [85] [2, 3, 4, 6, 10] [2, 3, 4, 6, 10] (keep_cons rfl keep_nil) (lkeep_cons rfl (lkeep_cons rfl (lkeep_cons rfl (lkeep_cons rfl (lkeep_cons rfl lkeep_nil))))) (keep_cons rfl (keep_cons rfl (keep_cons rfl (keep_cons rfl (keep_cons rfl keep_nil))))) rfl ?_ | refine g_keep [85] [2, 3, 4, 6, 10] [2, 3, 4, 6, 10] rfl rfl rfl rfl ?_
         refine g_cond rfl (fun hc85 => ?_) (fun hc85 => ?_)
         ·
          try simp only [NM] at hc85
          refine g_seq (fun K23 hK23 => ?_)
          refine g_region ?_
          have hR : doL me room l a = (l, 0) := by first | (rw [doL, if_pos hk0, joinT, if_neg hv, if_pos hid, refT, ho]; exact if_pos (by omega)) | (exfalso; simp_all; done) | (exfalso; simp_all; omega)
          refine g_step rfl (s_val (by first | exact v_loadl_all ty61 rfl rfl rfl rfl rfl | exact v_loadl_part (cs := [_, _, _]) ty61 rfl rfl rfl rfl rfl rfl) rfl rfl ?_)
          refine g_step rfl (s_store_all ty61 rfl rfl rfl rfl rfl rfl ?_)
          refine g_step rfl (s_val (v_assign rfl) rfl rfl ?_)
          refine g_nil ?_
          refine g_next hK23 ?_
          refine g_ret ?_
          refine g_then_ret ?_
          refine g_then_ret ?_
          refine g_then_ret ?_
          refine g_end2 (.inl rfl) Try.results30 (.agg ty61 rfl rfl rfl rfl rfl) (.tmp rfl) [] (ASub.refl _) (AHeap.sub_refl _) (fun p hp => by cases hp) ⟨rfl, ?_⟩
          first | (rw [hR]; rfl; done) | (rw [hR]; rfl; rfl)
         ·
          try simp only [NM] at hc85
          refine g_skip ?_
          refine g_next hK19 ?_
          refine g_seq (fun K24 hK24 => ?_)
          refine g_region ?_
          have hR : doL me room l a = (rput l (wthInc o (a.rc.inc + 1)), 4) := by first | (rw [doL, if_pos hk0, joinT, if_neg hv, if_pos hid, refT, ho]; exact if_neg (by omega)) | (exfalso; simp_all; done) | (exfalso; simp_all; omega)
          refine g_step rfl (s_fieldAddr ty65 fo65_1 ty46 rfl rfl ?_)
          refine g_step rfl (s_fieldAddr ty46 fo46_1 ty3 rfl rfl ?_)
          refine g_step rfl (s_val (v_loadl ty3 rfl rfl rfl rfl) rfl rfl ?_)
          refine g_step rfl (s_val (v_add rfl rfl (by omega)) rfl rfl ?_)
          refine g_step rfl (s_fieldAddr ty46 fo46_1 ty3 rfl rfl ?_)
          refine g_step rfl (s_store (new := (encR (wthInc o (a.rc.inc + 1)))) ty3 rfl rfl rfl rfl rfl rfl rfl ?_)
          refine g_nil ?_
          refine g_next hK24 ?_
          refine g_seq (fun K25 hK25 => ?_)
          refine g_region ?_
          refine g_step rfl (s_fieldAddr ty61 fo61_2 ty22 rfl rfl ?_)
          refine g_step rfl (s_val (v_loadl ty22 rfl rfl rfl rfl) rfl rfl ?_)
          refine g_step rfl (s_val (by first | exact v_loadl_all ty46 rfl rfl rfl rfl rfl | exact v_loadl_part (cs := [_, _, _, _, _, _, _]) ty46 rfl rfl rfl rfl rfl rfl) rfl rfl ?_)
          refine g_step rfl (s_callp rfl rfl rfl (put_ok l (wthInc o (a.rc.inc + 1)) _ _ rfl (by omega) hs (hso)) ?_)
          rintro _ rfl
          refine g_step rfl (s_fieldAddr ty61 fo61_2 ty22 rfl rfl ?_)
          refine g_step rfl (s_store (new := (mdl me room (rput l (wthInc o (a.rc.inc + 1))))) ty22 rfl rfl rfl rfl rfl rfl rfl ?_)
          refine g_nil ?_
          refine g_next hK25 ?_
          refine g_seq (fun K26 hK26 => ?_)
          refine g_region ?_
          refine g_step rfl (s_val (by first | exact v_loadl_all ty61 rfl rfl rfl rfl rfl | exact v_loadl_part (cs := [_, _, _]) ty61 rfl rfl rfl rfl rfl rfl) rfl rfl ?_)
          refine g_step rfl (s_store_all ty61 rfl rfl rfl rfl rfl rfl ?_)
          refine g_step rfl (s_val (v_assign rfl) rfl rfl ?_)
          refine g_nil ?_
          refine g_next hK26 ?_
          refine g_ret ?_
          refine g_then_ret ?_
          refine g_then_ret ?_
          refine g_end2 (.inl rfl) Try.results30 (.agg ty61 rfl rfl rfl rfl rfl) (.tmp rfl) [] (ASub.refl _) (AHeap.sub_refl _) (fun p hp => by cases hp) ⟨rfl, ?_⟩
          first | (rw [hR]; rfl; done) | (rw [hR]; rfl; rfl)
      ·
       try simp only [NM] at hg66
       refine g_step_no (j := 13) (t := 66) rfl rfl rfl rfl rfl rfl rfl ?_
       refine g_step_no (j := 13) (t := 66) rfl rfl rfl rfl rfl rfl rfl ?_
       refine g_step_no (j := 13) (t := 66) rfl rfl rfl rfl rfl rfl rfl ?_
       refine g_step_no (j := 13) (t := 66) rfl rfl rfl rfl rfl rfl rfl ?_
       refine g_step_yes (j := 6) (t := 59) rfl rfl rfl rfl (s_val (v_pick_f rfl rfl) rfl rfl ?_)
       refine g_step rfl (s_val (v_pick_f rfl rfl) rfl rfl ?_)
       refine g_step rfl (s_val (v_assign rfl) rfl rfl ?_)
       refine g_nil ?_
       refine g_next hK10 ?_
       refine g_seq (fun K27 hK27 => ?_)
       refine g_seq (fun K28 hK28 => ?_)
       refine g_region ?_
       refine g_step rfl (s_val (v_move rfl) rfl rfl ?_)
       refine g_step rfl (s_val (v_not rfl) rfl rfl ?_)
       refine g_step rfl (s_val (v_move rfl) rfl rfl ?_)
       refine g_split 75 rfl (fun hg75 => ?_) (fun hg75 => ?_)
       ·
        try simp only [NM] at hg75
        refine g_step_no (j := 2) (t := 75) rfl rfl rfl rfl rfl rfl rfl ?_
        refine g_step_no (j := 2) (t := 75) rfl rfl rfl rfl rfl rfl rfl ?_
        refine g_step_no (j := 2) (t := 75) rfl rfl rfl rfl rfl rfl rfl ?_
        refine g_step rfl (s_val (v_pick_t rfl rfl) rfl rfl ?_)
        refine g_step rfl (s_val (v_move rfl) rfl rfl ?_)
        refine g_step_no (j := 7) (t := 80) rfl rfl rfl rfl rfl rfl rfl ?_
        refine g_step_no (j := 7) (t := 80) rfl rfl rfl rfl rfl rfl rfl ?_
        refine g_step_no (j := 7) (t := 80) rfl rfl rfl rfl rfl rfl rfl ?_
        refine g_step_no (j := 7) (t := 80) rfl rfl rfl rfl rfl rfl rfl ?_
        refine g_step rfl (s_val (v_pick_t rfl rfl) rfl rfl ?_)
        refine g_nil ?_
        refine g_next hK28 ?_
        first | refine g_keep [85] [2, 3, 4, 6, 10] [2, 3, 4, 6, 10] (keep_cons rfl keep_nil) (lkeep_cons rfl (lkeep_cons rfl (lkeep_cons rfl (lkeep_cons rfl (lkeep_cons rfl lkeep_nil))))) (keep_cons rfl (keep_cons rfl (keep_cons rfl (keep_cons rfl (keep_cons rfl keep_nil))))) rfl ?_ | refine g_keep [85] [2, 3, 4, 6, 10] [2, 3, 4, 6, 10] rfl rfl rfl rfl ?_
        refine g_cond rfl (fun _ => ?_) (fun h => by cases h)
        refine g_seq (fun K29 hK29 => ?_)
        refine g_region ?_
        have hR : doL me room l a = (l, 0) := by first | (rw [doL, if_pos hk0, joinT, if_neg hv, if_pos hid, refT, ho]; exact if_pos (by omega)) | (exfalso; simp_all; done) | (exfalso; simp_all; omega)
        refine g_step rfl (s_val (by first | exact v_loadl_all ty61 rfl rfl rfl rfl rfl | exact v_loadl_part (cs := [_, _, _]) ty61 rfl rfl rfl rfl rfl rfl) rfl rfl ?_)
        refine g_step rfl (s_store_all ty61 rfl rfl rfl rfl rfl rfl ?_)
        refine g_step rfl (s_val (v_assign rfl) rfl rfl ?_)
        refine g_nil ?_
        refine g_next hK29 ?_
        refine g_ret ?_
        refine g_then_ret ?_
        refine g_then_ret ?_
        refine g_then_ret ?_
        refine g_end2 (.inl rfl) Try.results30 (.agg ty61 rfl rfl rfl rfl rfl) (.tmp rfl) [] (ASub.refl _) (AHeap.sub_refl _) (fun p hp => by cases hp) ⟨rfl, ?_⟩
        first | (rw [hR]; rfl; done) | (rw [hR]; rfl; rfl)
       ·
        try simp only [NM] at hg75
        refine g_step_yes (j := 2) (t := 75) rfl rfl rfl rfl (s_fieldAddr ty46 fo46_2 ty3 rfl rfl ?_)
        refine g_step_yes (j := 2) (t := 75) rfl rfl rfl rfl (s_val (v_loadl ty3 rfl rfl rfl rfl) rfl rfl ?_)
        refine g_step_yes (j := 2) (t := 75) rfl rfl rfl rfl (s_val (v_eql rfl rfl) rfl rfl ?_)
        refine g_step rfl (s_val (v_pick_f rfl rfl) rfl rfl ?_)
        refine g_step rfl (s_val (v_move rfl) rfl rfl ?_)
        refine g_split 80 rfl (fun hg80 => ?_) (fun hg80 => ?_)
        ·
         try simp only [NM] at hg80
         refine g_step_no (j := 7) (t := 80) rfl rfl rfl rfl rfl rfl rfl ?_
         refine g_step_no (j := 7) (t := 80) rfl rfl rfl rfl rfl rfl rfl ?_
         refine g_step_no (j := 7) (t := 80) rfl rfl rfl rfl rfl rfl rfl ?_
         refine g_step_no (j := 7) (t := 80) rfl rfl rfl rfl rfl rfl rfl ?_
         refine g_step rfl (s_val (v_pick_t rfl rfl) rfl rfl ?_)
         refine g_nil ?_
         refine g_next hK28 ?_
         first | refine g_keep [85] [2, 3, 4, 6, 10] [2, 3, 4, 6, 10] (keep_cons rfl keep_nil) (lkeep_cons rfl (lkeep_cons rfl (lkeep_cons rfl (lkeep_cons rfl (lkeep_cons rfl lkeep_nil))))) (keep_cons rfl (keep_cons rfl (keep_cons rfl (keep_cons rfl (keep_cons rfl keep_nil))))) rfl ?_ | refine g_keep [85] [2, 3, 4, 6, 10] [2, 3, 4, 6, 10] rfl rfl rfl rfl ?_
         refine g_cond rfl (fun _ => ?_) (fun h => by cases h)
         refine g_seq (fun K30 hK30 => ?_)
         refine g_region ?_
         have hR : doL me room l a = (l, 0) := by first | (rw [doL, if_pos hk0, joinT, if_neg hv, if_pos hid, refT, ho]; exact if_pos (by omega)) | (exfalso; simp_all; done) | (exfalso; simp_all; omega)
         refine g_step rfl (s_val (by first | exact v_loadl_all ty61 rfl rfl rfl rfl rfl | exact v_loadl_part (cs := [_, _, _]) ty61 rfl rfl rfl rfl rfl rfl) rfl rfl ?_)
         refine g_step rfl (s_store_all ty61 rfl rfl rfl rfl rfl rfl ?_)
         refine g_step rfl (s_val (v_assign rfl) rfl rfl ?_)
         refine g_nil ?_
         refine g_next hK30 ?_
         refine g_ret ?_
         refine g_then_ret ?_
         refine g_then_ret ?_
         refine g_then_ret ?_
         refine g_end2 (.inl rfl) Try.results30 (.agg ty61 rfl rfl rfl rfl rfl) (.tmp rfl) [] (ASub.refl _) (AHeap.sub_refl _) (fun p hp => by cases hp) ⟨rfl, ?_⟩
         first | (rw [hR]; rfl; done) | (rw [hR]; rfl; rfl)
        ·
         try simp only [NM] at hg80
         refine g_step_yes (j := 7) (t := 80) rfl rfl rfl rfl (s_fieldAddr ty65 fo65_1 ty46 rfl rfl ?_)
         refine g_step_yes (j := 7) (t := 80) rfl rfl rfl rfl (s_fieldAddr ty46 fo46_1 ty3 rfl rfl ?_)
         refine g_step_yes (j := 7) (t := 80) rfl rfl rfl rfl (s_val (v_loadl ty3 rfl rfl rfl rfl) rfl rfl ?_)
         refine g_step_yes (j := 7) (t := 80) rfl rfl rfl rfl (s_val (v_geq rfl rfl) rfl rfl ?_)
         refine g_step rfl (s_val (v_pick_f rfl rfl) rfl rfl ?_)
         refine g_nil ?_
         refine g_next hK28 ?_
         first | refine g_keep [85] [2, 3, 4, 6, 10] [2, 3, 4, 6, 10] (keep_cons rfl keep_nil) (lkeep_cons rfl (lkeep_cons rfl (lkeep_cons rfl (lkeep_cons rfl (lkeep_cons rfl lkeep_nil))))) (keep_cons rfl (keep_cons rfl (keep_cons rfl (keep_cons rfl (keep_cons rfl keep_nil))))) rfl ?_ | refine g_keep [85] [2, 3, 4, 6, 10] [2, 3, 4, 6, 10] rfl rfl rfl rfl ?_
         refine g_cond rfl (fun hc85 => ?_) (fun hc85 => ?_)
         ·
          try simp only [NM] at hc85
          refine g_seq (fun K31 hK31 => ?_)
          refine g_region ?_
          have hR : doL me room l a = (l, 0) := by first | (rw [doL, if_pos hk0, joinT, if_neg hv, if_pos hid, refT, ho]; exact if_pos (by omega)) | (exfalso; simp_all; done) | (exfalso; simp_all; omega)
          refine g_step rfl (s_val (by first | exact v_loadl_all ty61 rfl rfl rfl rfl rfl | exact v_loadl_part (cs := [_, _, _]) ty61 rfl rfl rfl rfl rfl rfl) rfl rfl ?_)
          refine g_step rfl (s_store_all ty61 rfl rfl rfl rfl rfl rfl ?_)
          refine g_step rfl (s_val (v_assign rfl) rfl rfl ?_)
          refine g_nil ?_
          refine g_next hK31 ?_
          refine g_ret ?_
          refine g_then_ret ?_
          refine g_then_ret ?_
          refine g_then_ret ?_
          refine g_end2 (.inl rfl) Try.results30 (.agg ty61 rfl rfl rfl rfl rfl) (.tmp rfl) [] (ASub.refl _) (AHeap.sub_refl _) (fun p hp => by cases hp) ⟨rfl, ?_⟩
          first | (rw [hR]; rfl; done) | (rw [hR]; rfl; rfl)
         ·
          try simp only [NM] at hc85
          refine g_skip ?_
          refine g_next hK27 ?_
          refine g_seq (fun K32 hK32 => ?_)
          refine g_region ?_
          have hR : doL me room l a = (rput l (wthInc o (a.rc.inc + 1)), 4) := by first | (rw [doL, if_pos hk0, joinT, if_neg hv, if_pos hid, refT, ho]; exact if_neg (by omega)) | (exfalso; simp_all; done) | (exfalso; simp_all; omega)
          refine g_step rfl (s_fieldAddr ty65 fo65_1 ty46 rfl rfl ?_)
          refine g_step rfl (s_fieldAddr ty46 fo46_1 ty3 rfl rfl ?_)
          refine g_step rfl (s_val (v_loadl ty3 rfl rfl rfl rfl) rfl rfl ?_)
          refine g_step rfl (s_val (v_add rfl rfl (by omega)) rfl rfl ?_)
          refine g_step rfl (s_fieldAddr ty46 fo46_1 ty3 rfl rfl ?_)
          refine g_step rfl (s_store (new := (encR (wthInc o (a.rc.inc + 1)))) ty3 rfl rfl rfl rfl rfl rfl rfl ?_)
          refine g_nil ?_
          refine g_next hK32 ?_
          refine g_seq (fun K33 hK33 => ?_)
          refine g_region ?_
          refine g_step rfl (s_fieldAddr ty61 fo61_2 ty22 rfl rfl ?_)
          refine g_step rfl (s_val (v_loadl ty22 rfl rfl rfl rfl) rfl rfl ?_)
          refine g_step rfl (s_val (by first | exact v_loadl_all ty46 rfl rfl rfl rfl rfl | exact v_loadl_part (cs := [_, _, _, _, _, _, _]) ty46 rfl rfl rfl rfl rfl rfl) rfl rfl ?_)
          refine g_step rfl (s_callp rfl rfl rfl (put_ok l (wthInc o (a.rc.inc + 1)) _ _ rfl (by omega) hs (hso)) ?_)
          rintro _ rfl
          refine g_step rfl (s_fieldAddr ty61 fo61_2 ty22 rfl rfl ?_)
          refine g_step rfl (s_store (new := (mdl me room (rput l (wthInc o (a.rc.inc + 1))))) ty22 rfl rfl rfl rfl rfl rfl rfl ?_)
          refine g_nil ?_
          refine g_next hK33 ?_
          refine g_seq (fun K34 hK34 => ?_)
          refine g_region ?_
          refine g_step rfl (s_val (by first | exact v_loadl_all ty61 rfl rfl rfl rfl rfl | exact v_loadl_part (cs := [_, _, _]) ty61 rfl rfl rfl rfl rfl rfl) rfl rfl ?_)
          refine g_step rfl (s_store_all ty61 rfl rfl rfl rfl rfl rfl ?_)
          refine g_step rfl (s_val (v_assign rfl) rfl rfl ?_)
          refine g_nil ?_
          refine g_next hK34 ?_
          refine g_ret ?_
          refine g_then_ret ?_
          refine g_then_ret ?_
          refine g_end2 (.inl rfl) Try.results30 (.agg ty61 rfl rfl rfl rfl rfl) (.tmp rfl) [] (ASub.refl _) (AHeap.sub_refl _) (fun p hp => by cases hp) ⟨rfl, ?_⟩
          first | (rw [hR]; rfl; done) | (rw [hR]; rfl; rfl)
    ·
     try simp only [NM] at hc52
     have hid : ¬ (a.rc.id = me) := by omega
     refine g_skip ?_
     refine g_next hK8 ?_
     refine g_seq (fun K35 hK35 => ?_)
     refine g_seq (fun K36 hK36 => ?_)
     refine g_region ?_
     refine g_step rfl (s_val (v_move rfl) rfl rfl ?_)
     refine g_step rfl (s_val (v_not rfl) rfl rfl ?_)
     refine g_nil ?_
     refine g_next hK36 ?_
     refine g_cond rfl (fun hc99 => ?_) (fun hc99 => ?_)
     ·
      try simp only [NM] at hc99
      have hno := rfind_no (l := l) (id := a.rc.id) (by simpa using hc99)
      refine g_seq (fun K37 hK37 => ?_)
      refine g_seq (fun K38 hK38 => ?_)
      refine g_region ?_
      refine g_step rfl (s_fieldAddr ty61 fo61_2 ty22 rfl rfl ?_)
      refine g_step rfl (s_val (v_loadl ty22 rfl rfl rfl rfl) rfl rfl ?_)
      refine g_step rfl (s_val (v_len ty22 rfl (by first | rfl | assumption) (by first | exact List.length_map .. | rfl)) rfl rfl ?_)
      refine g_step rfl (s_fieldAddr ty61 fo61_1 ty3 rfl rfl ?_)
      refine g_step rfl (s_val (v_loadl ty3 rfl rfl rfl rfl) rfl rfl ?_)
      refine g_step rfl (s_val (v_geq rfl rfl) rfl rfl ?_)
      refine g_nil ?_
      refine g_next hK38 ?_
      refine g_cond rfl (fun hc105 => ?_) (fun hc105 => ?_)
      ·
       try simp only [NM] at hc105
       refine g_seq (fun K39 hK39 => ?_)
       refine g_region ?_
       have hR : doL me room l a = (l, 3) := by rw [doL, if_pos hk0, joinT, if_neg hv, if_neg hid, hno]; exact if_pos (by omega)
       refine g_step rfl (s_val (by first | exact v_loadl_all ty61 rfl rfl rfl rfl rfl | exact v_loadl_part (cs := [_, _, _]) ty61 rfl rfl rfl rfl rfl rfl) rfl rfl ?_)
       refine g_step rfl (s_store_all ty61 rfl rfl rfl rfl rfl rfl ?_)
       refine g_step rfl (s_val (v_assign rfl) rfl rfl ?_)
       refine g_nil ?_
       refine g_next hK39 ?_
       refine g_ret ?_
       refine g_then_ret ?_
       refine g_then_ret ?_
       refine g_then_ret ?_
       refine g_end2 (.inl rfl) Try.results30 (.agg ty61 rfl rfl rfl rfl rfl) (.tmp rfl) [] (ASub.refl _) (AHeap.sub_refl _) (fun p hp => by cases hp) ⟨rfl, ?_⟩
       first | (rw [hR]; rfl; done) | (rw [hR]; rfl; rfl)
      ·
       try simp only [NM] at hc105
       refine g_skip ?_
       refine g_next hK37 ?_
       refine g_seq (fun K40 hK40 => ?_)
       refine g_region ?_
       have hR : doL me room l a = (rput l a.rc, 1) := by rw [doL, if_pos hk0, joinT, if_neg hv, if_neg hid, hno]; exact if_neg (by omega)
       refine g_step rfl (s_fieldAddr ty61 fo61_2 ty22 rfl rfl ?_)
       refine g_step rfl (s_val (v_loadl ty22 rfl rfl rfl rfl) rfl rfl ?_)
       refine g_step rfl (s_fieldAddr ty65 fo65_1 ty46 rfl rfl ?_)
       refine g_step rfl (s_val (v_loadl_part (cs := [_, _, _, _, _, _, _]) ty46 rfl rfl rfl rfl rfl rfl) rfl rfl ?_)
       refine g_step rfl (s_callp rfl rfl rfl (put_ok l a.rc _ _ rfl (by omega) hs (hb)) ?_)
       rintro _ rfl
       refine g_step rfl (s_fieldAddr ty61 fo61_2 ty22 rfl rfl ?_)
       refine g_step rfl (s_store (new := (mdl me room (rput l a.rc))) ty22 rfl rfl rfl rfl rfl rfl rfl ?_)
       refine g_nil ?_
       refine g_next hK40 ?_
       refine g_seq (fun K41 hK41 => ?_)
       refine g_region ?_
       refine g_step rfl (s_val (by first | exact v_loadl_all ty61 rfl rfl rfl rfl rfl | exact v_loadl_part (cs := [_, _, _]) ty61 rfl rfl rfl rfl rfl rfl) rfl rfl ?_)
       refine g_step rfl (s_store_all ty61 rfl rfl rfl rfl rfl rfl ?_)
       refine g_step rfl (s_val (v_assign rfl) rfl rfl ?_)
       refine g_nil ?_
       refine g_next hK41 ?_
       refine g_ret ?_
       refine g_then_ret ?_
       refine g_then_ret ?_
       refine g_end2 (.inl rfl) Try.results30 (.agg ty61 rfl rfl rfl rfl rfl) (.tmp rfl) [] (ASub.refl _) (AHeap.sub_refl _) (fun p hp => by cases hp) ⟨rfl, ?_⟩
       first | (rw [hR]; rfl; done) | (rw [hR]; rfl; rfl)
     ·
      try simp only [NM] at hc99
      have hy := rfind_yes (l := l) (id := a.rc.id) (by simpa using hc99)
      have hyid := fnd_id hy
      have hsj : Small (jn (rfind l a.rc.id).1 a.rc).bag := jn_small hsY hb
      refine g_skip ?_
      refine g_next hK35 ?_
      refine g_seq (fun K42 hK42 => ?_)
      refine g_region ?_
      refine g_step rfl (s_val (by first | exact v_loadl_all ty46 rfl rfl rfl rfl rfl | exact v_loadl_part (cs := [_, _, _, _, _, _, _]) ty46 rfl rfl rfl rfl rfl rfl) rfl rfl ?_)
      refine g_step rfl (s_fieldAddr ty65 fo65_1 ty46 rfl rfl ?_)
      refine g_step rfl (s_val (v_loadl_part (cs := [_, _, _, _, _, _, _]) ty46 rfl rfl rfl rfl rfl rfl) rfl rfl ?_)
      refine g_step rfl (s_callp rfl rfl rfl (join_ok (rfind l a.rc.id).1 a.rc _ hsY hb) ?_)
      rintro _ rfl
      rw [jnAll_same hyid]
      refine g_step rfl (s_val (v_move rfl) rfl rfl ?_)
      refine g_step rfl (s_val (v_extract rfl rfl) rfl rfl ?_)
      refine g_step rfl (s_val (v_extract rfl rfl) rfl rfl ?_)
      refine g_step rfl (s_alloc (av := (.agg [(.int .i64 0), (.int .i64 0), (.int .i64 0), (.int .i64 0), (.int .i64 0), (.bool false), .nil0])) ty46 rfl rfl rfl rfl ?_)
      refine g_step rfl (s_store_all ty46 rfl rfl rfl rfl rfl rfl ?_)
      refine g_step rfl (s_val (v_assign rfl) rfl rfl ?_)
      refine g_nil ?_
      refine g_next hK42 ?_
      refine g_seq (fun K43 hK43 => ?_)
      refine g_seq (fun K44 hK44 => ?_)
      refine g_region ?_
      refine g_step rfl (s_val (by first | exact v_loadl_all ty46 rfl rfl rfl rfl rfl | exact v_loadl_part (cs := [_, _, _, _, _, _, _]) ty46 rfl rfl rfl rfl rfl rfl) rfl rfl ?_)
      refine g_step rfl (s_val (by first | exact v_loadl_all ty46 rfl rfl rfl rfl rfl | exact v_loadl_part (cs := [_, _, _, _, _, _, _]) ty46 rfl rfl rfl rfl rfl rfl) rfl rfl ?_)
      refine g_step rfl (s_callp rfl rfl rfl (alike_ok (jn (rfind l a.rc.id).1 a.rc) (rfind l a.rc.id).1 _ hsj) ?_)
      rintro _ rfl
      refine g_nil ?_
      refine g_next hK44 ?_
      refine g_cond rfl (fun hc123 => ?_) (fun hc123 => ?_)
      ·
       try simp only [NM] at hc123
       refine g_seq (fun K45 hK45 => ?_)
       refine g_region ?_
       have hR : doL me room l a = (l, 0) := by rw [doL, if_pos hk0, joinT, if_neg hv, if_neg hid, hy]; exact if_pos (by simpa using hc123)
       refine g_step rfl (s_val (by first | exact v_loadl_all ty61 rfl rfl rfl rfl rfl | exact v_loadl_part (cs := [_, _, _]) ty61 rfl rfl rfl rfl rfl rfl) rfl rfl ?_)
       refine g_step rfl (s_store_all ty61 rfl rfl rfl rfl rfl rfl ?_)
       refine g_step rfl (s_val (v_assign rfl) rfl rfl ?_)
       refine g_nil ?_
       refine g_next hK45 ?_
       refine g_ret ?_
       refine g_then_ret ?_
       refine g_then_ret ?_
       refine g_end2 (.inl rfl) Try.results30 (.agg ty61 rfl rfl rfl rfl rfl) (.tmp rfl) [] (ASub.refl _) (AHeap.sub_refl _) (fun p hp => by cases hp) ⟨rfl, ?_⟩
       first | (rw [hR]; rfl; done) | (rw [hR]; rfl; rfl)
      ·
       try simp only [NM] at hc123
       refine g_skip ?_
       refine g_next hK43 ?_
       refine g_seq (fun K46 hK46 => ?_)
       refine g_region ?_
       have hR : doL me room l a = (rput l (jn (rfind l a.rc.id).1 a.rc), 2) := by rw [doL, if_pos hk0, joinT, if_neg hv, if_neg hid, hy]; exact if_neg (by simpa using hc123)
       refine g_step rfl (s_fieldAddr ty61 fo61_2 ty22 rfl rfl ?_)
       refine g_step rfl (s_val (v_loadl ty22 rfl rfl rfl rfl) rfl rfl ?_)
       refine g_step rfl (s_val (by first | exact v_loadl_all ty46 rfl rfl rfl rfl rfl | exact v_loadl_part (cs := [_, _, _, _, _, _, _]) ty46 rfl rfl rfl rfl rfl rfl) rfl rfl ?_)
       refine g_step rfl (s_callp rfl rfl rfl (put_ok l (jn (rfind l a.rc.id).1 a.rc) _ _ rfl (by omega) hs (hsj)) ?_)
       rintro _ rfl
       refine g_step rfl (s_fieldAddr ty61 fo61_2 ty22 rfl rfl ?_)
       refine g_step rfl (s_store (new := (mdl me room (rput l (jn (rfind l a.rc.id).1 a.rc)))) ty22 rfl rfl rfl rfl rfl rfl rfl ?_)
       refine g_nil ?_
       refine g_next hK46 ?_
       refine g_seq (fun K47 hK47 => ?_)
       refine g_region ?_
       refine g_step rfl (s_val (by first | exact v_loadl_all ty61 rfl rfl rfl rfl rfl | exact v_loadl_part (cs := [_, _, _]) ty61 rfl rfl rfl rfl rfl rfl) rfl rfl ?_)
       refine g_step rfl (s_store_all ty61 rfl rfl rfl rfl rfl rfl ?_)
       refine g_step rfl (s_val (v_assign rfl) rfl rfl ?_)
       refine g_nil ?_
       refine g_next hK47 ?_
       first | refine g_keep [5] [4] [4] (keep_cons rfl keep_nil) (lkeep_cons rfl lkeep_nil) (keep_cons rfl keep_nil) rfl ?_ | refine g_keep [5] [4] [4] rfl rfl rfl rfl ?_
       refine g_ret ?_
       refine g_then_ret ?_
       refine g_end2 (.inl rfl) Try.results30 (.agg ty61 rfl rfl rfl rfl rfl) (.tmp rfl) [] (ASub.refl _) (AHeap.sub_refl _) (fun p hp => by cases hp) ⟨rfl, ?_⟩
       first | (rw [hR]; rfl; done) | (rw [hR]; rfl; rfl)
  ·
   try simp only [NM] at hc41
   have hk0 : ¬ (a.k = 0) := by omega
   refine g_skip ?_
   refine g_next hK3 ?_
   refine g_seq (fun K48 hK48 => ?_)
   refine g_seq (fun K49 hK49 => ?_)
   refine g_region ?_
   refine g_step rfl (s_fieldAddr ty65 fo65_0 ty3 rfl rfl ?_)
   refine g_step rfl (s_val (v_loadl ty3 rfl rfl rfl rfl) rfl rfl ?_)
   refine g_step rfl (s_val (v_eql rfl rfl) rfl rfl ?_)
   refine g_step rfl (s_val (v_move rfl) rfl rfl ?_)
   refine g_split 134 rfl (fun hg134 => ?_) (fun hg134 => ?_)
   ·
    try simp only [NM] at hg134
    refine g_step_no (j := 3) (t := 134) rfl rfl rfl rfl rfl rfl rfl ?_
    refine g_step_no (j := 3) (t := 134) rfl rfl rfl rfl rfl rfl rfl ?_
    refine g_step_no (j := 3) (t := 134) rfl rfl rfl rfl rfl rfl rfl ?_
    refine g_step rfl (s_val (v_pick_t rfl rfl) rfl rfl ?_)
    refine g_nil ?_
    refine g_next hK49 ?_
    refine g_cond rfl (fun _ => ?_) (fun h => by cases h)
    refine g_seq (fun K50 hK50 => ?_)
    refine g_seq (fun K51 hK51 => ?_)
    refine g_region ?_
    have hk12 : a.k = 1 ∨ a.k = 2 := by omega
    refine g_step rfl (s_val (v_move rfl) rfl rfl ?_)
    refine g_step rfl (s_val (v_not rfl) rfl rfl ?_)
    refine g_step rfl (s_val (v_move rfl) rfl rfl ?_)
    refine g_split 141 rfl (fun hg141 => ?_) (fun hg141 => ?_)
    ·
     try simp only [NM] at hg141
     refine g_step_no (j := 2) (t := 141) rfl rfl rfl rfl rfl rfl rfl ?_
     refine g_step_no (j := 2) (t := 141) rfl rfl rfl rfl rfl rfl rfl ?_
     refine g_step_no (j := 2) (t := 141) rfl rfl rfl rfl rfl rfl rfl ?_
     refine g_step_no (j := 2) (t := 141) rfl rfl rfl rfl rfl rfl rfl ?_
     refine g_step_no (j := 2) (t := 141) rfl rfl rfl rfl rfl rfl rfl ?_
     refine g_step_no (j := 2) (t := 141) rfl rfl rfl rfl rfl rfl rfl ?_
     refine g_step rfl (s_val (v_pick_t rfl rfl) rfl rfl ?_)
     refine g_step rfl (s_val (v_move rfl) rfl rfl ?_)
     refine g_step_no (j := 10) (t := 149) rfl rfl rfl rfl rfl rfl rfl ?_
     refine g_step_no (j := 10) (t := 149) rfl rfl rfl rfl rfl rfl rfl ?_
     refine g_step_no (j := 10) (t := 149) rfl rfl rfl rfl rfl rfl rfl ?_
     refine g_step_no (j := 10) (t := 149) rfl rfl rfl rfl rfl rfl rfl ?_
     refine g_step_no (j := 10) (t := 149) rfl rfl rfl rfl rfl rfl rfl ?_
     refine g_step_no (j := 10) (t := 149) rfl rfl rfl rfl rfl rfl rfl ?_
     refine g_step rfl (s_val (v_pick_t rfl rfl) rfl rfl ?_)
     refine g_step rfl (s_val (v_move rfl) rfl rfl ?_)
     refine g_step_no (j := 18) (t := 157) rfl rfl rfl rfl rfl rfl rfl ?_
     refine g_step_no (j := 18) (t := 157) rfl rfl rfl rfl rfl rfl rfl ?_
     refine g_step_no (j := 18) (t := 157) rfl rfl rfl rfl rfl rfl rfl ?_
     refine g_step_no (j := 18) (t := 157) rfl rfl rfl rfl rfl rfl rfl ?_
     refine g_step_no (j := 18) (t := 157) rfl rfl rfl rfl rfl rfl rfl ?_
     refine g_step_no (j := 18) (t := 157) rfl rfl rfl rfl rfl rfl rfl ?_
     refine g_step rfl (s_val (v_pick_t rfl rfl) rfl rfl ?_)
     refine g_nil ?_
     refine g_next hK51 ?_
     first | refine g_keep [164] [2, 3, 4, 8, 10] [2, 3, 4, 8, 10] (keep_cons rfl keep_nil) (lkeep_cons rfl (lkeep_cons rfl (lkeep_cons rfl (lkeep_cons rfl (lkeep_cons rfl lkeep_nil))))) (keep_cons rfl (keep_cons rfl (keep_cons rfl (keep_cons rfl (keep_cons rfl keep_nil))))) rfl ?_ | refine g_keep [164] [2, 3, 4, 8, 10] [2, 3, 4, 8, 10] rfl rfl rfl rfl ?_
     refine g_cond rfl (fun _ => ?_) (fun h => by cases h)
     refine g_seq (fun K52 hK52 => ?_)
     refine g_region ?_
     have hM : moveT me l a.rc.id a.rc.inc (a.k - 1) a.k = (l, false) := by cases hq : (rfind l a.rc.id).2; simp [moveT, rfind_no hq]; (rw [moveT, rfind_yes hq]; first | exact if_pos (by omega) | (exfalso; simp_all; done))
     have hR : doL me room l a = (l, 0) := by rw [doL, if_neg hk0, if_pos hk12, hM]; rfl
     refine g_step rfl (s_val (by first | exact v_loadl_all ty61 rfl rfl rfl rfl rfl | exact v_loadl_part (cs := [_, _, _]) ty61 rfl rfl rfl rfl rfl rfl) rfl rfl ?_)
     refine g_step rfl (s_store_all ty61 rfl rfl rfl rfl rfl rfl ?_)
     refine g_step rfl (s_val (v_assign rfl) rfl rfl ?_)
     refine g_nil ?_
     refine g_next hK52 ?_
     refine g_ret ?_
     refine g_then_ret ?_
     refine g_then_ret ?_
     refine g_end2 (.inl rfl) Try.results30 (.agg ty61 rfl rfl rfl rfl rfl) (.tmp rfl) [] (ASub.refl _) (AHeap.sub_refl _) (fun p hp => by cases hp) ⟨rfl, ?_⟩
     first | (rw [hR]; rfl; done) | (rw [hR]; rfl; rfl)
    ·
     try simp only [NM] at hg141
     refine g_step_yes (j := 2) (t := 141) rfl rfl rfl rfl (s_fieldAddr ty65 fo65_1 ty46 rfl rfl ?_)
     refine g_step_yes (j := 2) (t := 141) rfl rfl rfl rfl (s_fieldAddr ty46 fo46_0 ty3 rfl rfl ?_)
     refine g_step_yes (j := 2) (t := 141) rfl rfl rfl rfl (s_val (v_loadl ty3 rfl rfl rfl rfl) rfl rfl ?_)
     refine g_step_yes (j := 2) (t := 141) rfl rfl rfl rfl (s_fieldAddr ty61 fo61_0 ty3 rfl rfl ?_)
     refine g_step_yes (j := 2) (t := 141) rfl rfl rfl rfl (s_val (v_loadl ty3 rfl rfl rfl rfl) rfl rfl ?_)
     refine g_step_yes (j := 2) (t := 141) rfl rfl rfl rfl (s_val (v_eql rfl rfl) rfl rfl ?_)
     refine g_step rfl (s_val (v_pick_f rfl rfl) rfl rfl ?_)
     refine g_step rfl (s_val (v_move rfl) rfl rfl ?_)
     refine g_split 149 rfl (fun hg149 => ?_) (fun hg149 => ?_)
     ·
      try simp only [NM] at hg149
      refine g_step_no (j := 10) (t := 149) rfl rfl rfl rfl rfl rfl rfl ?_
      refine g_step_no (j := 10) (t := 149) rfl rfl rfl rfl rfl rfl rfl ?_
      refine g_step_no (j := 10) (t := 149) rfl rfl rfl rfl rfl rfl rfl ?_
      refine g_step_no (j := 10) (t := 149) rfl rfl rfl rfl rfl rfl rfl ?_
      refine g_step_no (j := 10) (t := 149) rfl rfl rfl rfl rfl rfl rfl ?_
      refine g_step_no (j := 10) (t := 149) rfl rfl rfl rfl rfl rfl rfl ?_
      refine g_step rfl (s_val (v_pick_t rfl rfl) rfl rfl ?_)
      refine g_step rfl (s_val (v_move rfl) rfl rfl ?_)
      refine g_step_no (j := 18) (t := 157) rfl rfl rfl rfl rfl rfl rfl ?_
      refine g_step_no (j := 18) (t := 157) rfl rfl rfl rfl rfl rfl rfl ?_
      refine g_step_no (j := 18) (t := 157) rfl rfl rfl rfl rfl rfl rfl ?_
      refine g_step_no (j := 18) (t := 157) rfl rfl rfl rfl rfl rfl rfl ?_
      refine g_step_no (j := 18) (t := 157) rfl rfl rfl rfl rfl rfl rfl ?_
      refine g_step_no (j := 18) (t := 157) rfl rfl rfl rfl rfl rfl rfl ?_
      refine g_step rfl (s_val (v_pick_t rfl rfl) rfl rfl ?_)
      refine g_nil ?_
      refine g_next hK51 ?_
      first | refine g_keep [164] [2, 3, 4, 8, 10] [2, 3, 4, 8, 10] (keep_cons rfl keep_nil) (lkeep_cons rfl (lkeep_cons rfl (lkeep_cons rfl (lkeep_cons rfl (lkeep_cons rfl lkeep_nil))))) (keep_cons rfl (keep_cons rfl (keep_cons rfl (keep_cons rfl (keep_cons rfl keep_nil))))) rfl ?_ | refine g_keep [164] [2, 3, 4, 8, 10] [2, 3, 4, 8, 10] rfl rfl rfl rfl ?_
      refine g_cond rfl (fun _ => ?_) (fun h => by cases h)
      refine g_seq (fun K53 hK53 => ?_)
      refine g_region ?_
      have hM : moveT me l a.rc.id a.rc.inc (a.k - 1) a.k = (l, false) := by cases hq : (rfind l a.rc.id).2; simp [moveT, rfind_no hq]; (rw [moveT, rfind_yes hq]; first | exact if_pos (by omega) | (exfalso; simp_all; done))
      have hR : doL me room l a = (l, 0) := by rw [doL, if_neg hk0, if_pos hk12, hM]; rfl
      refine g_step rfl (s_val (by first | exact v_loadl_all ty61 rfl rfl rfl rfl rfl | exact v_loadl_part (cs := [_, _, _]) ty61 rfl rfl rfl rfl rfl rfl) rfl rfl ?_)
      refine g_step rfl (s_store_all ty61 rfl rfl rfl rfl rfl rfl ?_)
      refine g_step rfl (s_val (v_assign rfl) rfl rfl ?_)
      refine g_nil ?_
      refine g_next hK53 ?_
      refine g_ret ?_
      refine g_then_ret ?_
      refine g_then_ret ?_
      refine g_end2 (.inl rfl) Try.results30 (.agg ty61 rfl rfl rfl rfl rfl) (.tmp rfl) [] (ASub.refl _) (AHeap.sub_refl _) (fun p hp => by cases hp) ⟨rfl, ?_⟩
      first | (rw [hR]; rfl; done) | (rw [hR]; rfl; rfl)
     ·
      try simp only [NM] at hg149
      refine g_step_yes (j := 10) (t := 149) rfl rfl rfl rfl (s_fieldAddr ty46 fo46_1 ty3 rfl rfl ?_)
      refine g_step_yes (j := 10) (t := 149) rfl rfl rfl rfl (s_val (v_loadl ty3 rfl rfl rfl rfl) rfl rfl ?_)
      refine g_step_yes (j := 10) (t := 149) rfl rfl rfl rfl (s_fieldAddr ty65 fo65_1 ty46 rfl rfl ?_)
      refine g_step_yes (j := 10) (t := 149) rfl rfl rfl rfl (s_fieldAddr ty46 fo46_1 ty3 rfl rfl ?_)
      refine g_step_yes (j := 10) (t := 149) rfl rfl rfl rfl (s_val (v_loadl ty3 rfl rfl rfl rfl) rfl rfl ?_)
      refine g_step_yes (j := 10) (t := 149) rfl rfl rfl rfl (s_val (v_neq rfl rfl) rfl rfl ?_)
      refine g_step rfl (s_val (v_pick_f rfl rfl) rfl rfl ?_)
      refine g_step rfl (s_val (v_move rfl) rfl rfl ?_)
      refine g_split 157 rfl (fun hg157 => ?_) (fun hg157 => ?_)
      ·
       try simp only [NM] at hg157
       refine g_step_no (j := 18) (t := 157) rfl rfl rfl rfl rfl rfl rfl ?_
       refine g_step_no (j := 18) (t := 157) rfl rfl rfl rfl rfl rfl rfl ?_
       refine g_step_no (j := 18) (t := 157) rfl rfl rfl rfl rfl rfl rfl ?_
       refine g_step_no (j := 18) (t := 157) rfl rfl rfl rfl rfl rfl rfl ?_
       refine g_step_no (j := 18) (t := 157) rfl rfl rfl rfl rfl rfl rfl ?_
       refine g_step_no (j := 18) (t := 157) rfl rfl rfl rfl rfl rfl rfl ?_
       refine g_step rfl (s_val (v_pick_t rfl rfl) rfl rfl ?_)
       refine g_nil ?_
       refine g_next hK51 ?_
       first | refine g_keep [164] [2, 3, 4, 8, 10] [2, 3, 4, 8, 10] (keep_cons rfl keep_nil) (lkeep_cons rfl (lkeep_cons rfl (lkeep_cons rfl (lkeep_cons rfl (lkeep_cons rfl lkeep_nil))))) (keep_cons rfl (keep_cons rfl (keep_cons rfl (keep_cons rfl (keep_cons rfl keep_nil))))) rfl ?_ | refine g_keep [164] [2, 3, 4, 8, 10] [2, 3, 4, 8, 10] rfl rfl rfl rfl ?_
       refine g_cond rfl (fun _ => ?_) (fun h => by cases h)
       refine g_seq (fun K54 hK54 => ?_)
       refine g_region ?_
       have hM : moveT me l a.rc.id a.rc.inc (a.k - 1) a.k = (l, false) := by cases hq : (rfind l a.rc.id).2; simp [moveT, rfind_no hq]; (rw [moveT, rfind_yes hq]; first | exact if_pos (by omega) | (exfalso; simp_all; done))
       have hR : doL me room l a = (l, 0) := by rw [doL, if_neg hk0, if_pos hk12, hM]; rfl
       refine g_step rfl (s_val (by first | exact v_loadl_all ty61 rfl rfl rfl rfl rfl | exact v_loadl_part (cs := [_, _, _]) ty61 rfl rfl rfl rfl rfl rfl) rfl rfl ?_)
       refine g_step rfl (s_store_all ty61 rfl rfl rfl rfl rfl rfl ?_)
       refine g_step rfl (s_val (v_assign rfl) rfl rfl ?_)
       refine g_nil ?_
       refine g_next hK54 ?_
       refine g_ret ?_
       refine g_then_ret ?_
       refine g_then_ret ?_
       refine g_end2 (.inl rfl) Try.results30 (.agg ty61 rfl rfl rfl rfl rfl) (.tmp rfl) [] (ASub.refl _) (AHeap.sub_refl _) (fun p hp => by cases hp) ⟨rfl, ?_⟩
       first | (rw [hR]; rfl; done) | (rw [hR]; rfl; rfl)
      ·
       try simp only [NM] at hg157
       refine g_step_yes (j := 18) (t := 157) rfl rfl rfl rfl (s_fieldAddr ty46 fo46_2 ty3 rfl rfl ?_)
       refine g_step_yes (j := 18) (t := 157) rfl rfl rfl rfl (s_val (v_loadl ty3 rfl rfl rfl rfl) rfl rfl ?_)
       refine g_step_yes (j := 18) (t := 157) rfl rfl rfl rfl (s_fieldAddr ty65 fo65_0 ty3 rfl rfl ?_)
       refine g_step_yes (j := 18) (t := 157) rfl rfl rfl rfl (s_val (v_loadl ty3 rfl rfl rfl rfl) rfl rfl ?_)
       refine g_step_yes (j := 18) (t := 157) rfl rfl rfl rfl (s_val (v_sub_ rfl rfl (by omega)) rfl rfl ?_)
       refine g_step_yes (j := 18) (t := 157) rfl rfl rfl rfl (s_val (v_neq rfl rfl) rfl rfl ?_)
       refine g_step rfl (s_val (v_pick_f rfl rfl) rfl rfl ?_)
       refine g_nil ?_
       refine g_next hK51 ?_
       first | refine g_keep [164] [2, 3, 4, 8, 10] [2, 3, 4, 8, 10] (keep_cons rfl keep_nil) (lkeep_cons rfl (lkeep_cons rfl (lkeep_cons rfl (lkeep_cons rfl (lkeep_cons rfl lkeep_nil))))) (keep_cons rfl (keep_cons rfl (keep_cons rfl (keep_cons rfl (keep_cons rfl keep_nil))))) rfl ?_ | refine g_keep [164] [2, 3, 4, 8, 10] [2, 3, 4, 8, 10] rfl rfl rfl rfl ?_
       refine g_cond rfl (fun hc164 => ?_) (fun hc164 => ?_)
       ·
        try simp only [NM] at hc164
        refine g_seq (fun K55 hK55 => ?_)
        refine g_region ?_
        have hM : moveT me l a.rc.id a.rc.inc (a.k - 1) a.k = (l, false) := by cases hq : (rfind l a.rc.id).2; simp [moveT, rfind_no hq]; (rw [moveT, rfind_yes hq]; first | exact if_pos (by omega) | (exfalso; simp_all; done))
        have hR : doL me room l a = (l, 0) := by rw [doL, if_neg hk0, if_pos hk12, hM]; rfl
        refine g_step rfl (s_val (by first | exact v_loadl_all ty61 rfl rfl rfl rfl rfl | exact v_loadl_part (cs := [_, _, _]) ty61 rfl rfl rfl rfl rfl rfl) rfl rfl ?_)
        refine g_step rfl (s_store_all ty61 rfl rfl rfl rfl rfl rfl ?_)
        refine g_step rfl (s_val (v_assign rfl) rfl rfl ?_)
        refine g_nil ?_
        refine g_next hK55 ?_
        refine g_ret ?_
        refine g_then_ret ?_
        refine g_then_ret ?_
        refine g_end2 (.inl rfl) Try.results30 (.agg ty61 rfl rfl rfl rfl rfl) (.tmp rfl) [] (ASub.refl _) (AHeap.sub_refl _) (fun p hp => by cases hp) ⟨rfl, ?_⟩
        first | (rw [hR]; rfl; done) | (rw [hR]; rfl; rfl)
       ·
        try simp only [NM] at hc164
        refine g_skip ?_
        refine g_next hK50 ?_
        refine g_seq (fun K56 hK56 => ?_)
        refine g_region ?_
        have hy := rfind_yes (l := l) (id := a.rc.id) (by simp_all)
        have hM : moveT me l a.rc.id a.rc.inc (a.k - 1) a.k = (rput l (withSt (rfind l a.rc.id).1 a.k), true) := by rw [moveT, hy]; exact if_neg (by omega)
        have hR : doL me room l a = (rput l (withSt (rfind l a.rc.id).1 a.k), 1) := by rw [doL, if_neg hk0, if_pos hk12, hM]; rfl
        refine g_step rfl (s_fieldAddr ty65 fo65_0 ty3 rfl rfl ?_)
        refine g_step rfl (s_val (v_loadl ty3 rfl rfl rfl rfl) rfl rfl ?_)
        refine g_step rfl (s_fieldAddr ty46 fo46_2 ty3 rfl rfl ?_)
        refine g_step rfl (s_store (new := (encR (withSt (rfind l a.rc.id).1 a.k))) ty3 rfl rfl rfl rfl rfl rfl rfl ?_)
        refine g_nil ?_
        refine g_next hK56 ?_
        refine g_seq (fun K57 hK57 => ?_)
        refine g_region ?_
        refine g_step rfl (s_fieldAddr ty61 fo61_2 ty22 rfl rfl ?_)
        refine g_step rfl (s_val (v_loadl ty22 rfl rfl rfl rfl) rfl rfl ?_)
        refine g_step rfl (s_val (by first | exact v_loadl_all ty46 rfl rfl rfl rfl rfl | exact v_loadl_part (cs := [_, _, _, _, _, _, _]) ty46 rfl rfl rfl rfl rfl rfl) rfl rfl ?_)
        refine g_step rfl (s_callp rfl rfl rfl (put_ok l (withSt (rfind l a.rc.id).1 a.k) _ _ rfl (by omega) hs (hsY)) ?_)
        rintro _ rfl
        refine g_step rfl (s_fieldAddr ty61 fo61_2 ty22 rfl rfl ?_)
        refine g_step rfl (s_store (new := (mdl me room (rput l (withSt (rfind l a.rc.id).1 a.k)))) ty22 rfl rfl rfl rfl rfl rfl rfl ?_)
        refine g_nil ?_
        refine g_next hK57 ?_
        refine g_seq (fun K58 hK58 => ?_)
        refine g_region ?_
        refine g_step rfl (s_val (by first | exact v_loadl_all ty61 rfl rfl rfl rfl rfl | exact v_loadl_part (cs := [_, _, _]) ty61 rfl rfl rfl rfl rfl rfl) rfl rfl ?_)
        refine g_step rfl (s_store_all ty61 rfl rfl rfl rfl rfl rfl ?_)
        refine g_step rfl (s_val (v_assign rfl) rfl rfl ?_)
        refine g_nil ?_
        refine g_next hK58 ?_
        refine g_ret ?_
        refine g_then_ret ?_
        refine g_end2 (.inl rfl) Try.results30 (.agg ty61 rfl rfl rfl rfl rfl) (.tmp rfl) [] (ASub.refl _) (AHeap.sub_refl _) (fun p hp => by cases hp) ⟨rfl, ?_⟩
        first | (rw [hR]; rfl; done) | (rw [hR]; rfl; rfl)
   ·
    try simp only [NM] at hg134
    refine g_step_yes (j := 3) (t := 134) rfl rfl rfl rfl (s_fieldAddr ty65 fo65_0 ty3 rfl rfl ?_)
    refine g_step_yes (j := 3) (t := 134) rfl rfl rfl rfl (s_val (v_loadl ty3 rfl rfl rfl rfl) rfl rfl ?_)
    refine g_step_yes (j := 3) (t := 134) rfl rfl rfl rfl (s_val (v_eql rfl rfl) rfl rfl ?_)
    refine g_step rfl (s_val (v_pick_f rfl rfl) rfl rfl ?_)
    refine g_nil ?_
    refine g_next hK49 ?_
    refine g_cond rfl (fun hc138 => ?_) (fun hc138 => ?_)
    ·
     try simp only [NM] at hc138
     refine g_seq (fun K59 hK59 => ?_)
     refine g_seq (fun K60 hK60 => ?_)
     refine g_region ?_
     have hk12 : a.k = 1 ∨ a.k = 2 := by omega
     refine g_step rfl (s_val (v_move rfl) rfl rfl ?_)
     refine g_step rfl (s_val (v_not rfl) rfl rfl ?_)
     refine g_step rfl (s_val (v_move rfl) rfl rfl ?_)
     refine g_split 141 rfl (fun hg141 => ?_) (fun hg141 => ?_)
     ·
      try simp only [NM] at hg141
      refine g_step_no (j := 2) (t := 141) rfl rfl rfl rfl rfl rfl rfl ?_
      refine g_step_no (j := 2) (t := 141) rfl rfl rfl rfl rfl rfl rfl ?_
      refine g_step_no (j := 2) (t := 141) rfl rfl rfl rfl rfl rfl rfl ?_
      refine g_step_no (j := 2) (t := 141) rfl rfl rfl rfl rfl rfl rfl ?_
      refine g_step_no (j := 2) (t := 141) rfl rfl rfl rfl rfl rfl rfl ?_
      refine g_step_no (j := 2) (t := 141) rfl rfl rfl rfl rfl rfl rfl ?_
      refine g_step rfl (s_val (v_pick_t rfl rfl) rfl rfl ?_)
      refine g_step rfl (s_val (v_move rfl) rfl rfl ?_)
      refine g_step_no (j := 10) (t := 149) rfl rfl rfl rfl rfl rfl rfl ?_
      refine g_step_no (j := 10) (t := 149) rfl rfl rfl rfl rfl rfl rfl ?_
      refine g_step_no (j := 10) (t := 149) rfl rfl rfl rfl rfl rfl rfl ?_
      refine g_step_no (j := 10) (t := 149) rfl rfl rfl rfl rfl rfl rfl ?_
      refine g_step_no (j := 10) (t := 149) rfl rfl rfl rfl rfl rfl rfl ?_
      refine g_step_no (j := 10) (t := 149) rfl rfl rfl rfl rfl rfl rfl ?_
      refine g_step rfl (s_val (v_pick_t rfl rfl) rfl rfl ?_)
      refine g_step rfl (s_val (v_move rfl) rfl rfl ?_)
      refine g_step_no (j := 18) (t := 157) rfl rfl rfl rfl rfl rfl rfl ?_
      refine g_step_no (j := 18) (t := 157) rfl rfl rfl rfl rfl rfl rfl ?_
      refine g_step_no (j := 18) (t := 157) rfl rfl rfl rfl rfl rfl rfl ?_
      refine g_step_no (j := 18) (t := 157) rfl rfl rfl rfl rfl rfl rfl ?_
      refine g_step_no (j := 18) (t := 157) rfl rfl rfl rfl rfl rfl rfl ?_
      refine g_step_no (j := 18) (t := 157) rfl rfl rfl rfl rfl rfl rfl ?_
      refine g_step rfl (s_val (v_pick_t rfl rfl) rfl rfl ?_)
      refine g_nil ?_
      refine g_next hK60 ?_
      first | refine g_keep [164] [2, 3, 4, 8, 10] [2, 3, 4, 8, 10] (keep_cons rfl keep_nil) (lkeep_cons rfl (lkeep_cons rfl (lkeep_cons rfl (lkeep_cons rfl (lkeep_cons rfl lkeep_nil))))) (keep_cons rfl (keep_cons rfl (keep_cons rfl (keep_cons rfl (keep_cons rfl keep_nil))))) rfl ?_ | refine g_keep [164] [2, 3, 4, 8, 10] [2, 3, 4, 8, 10] rfl rfl rfl rfl ?_
      refine g_cond rfl (fun _ => ?_) (fun h => by cases h)
      refine g_seq (fun K61 hK61 => ?_)
      refine g_region ?_
      have hM : moveT me l a.rc.id a.rc.inc (a.k - 1) a.k = (l, false) := by cases hq : (rfind l a.rc.id).2; simp [moveT, rfind_no hq]; (rw [moveT, rfind_yes hq]; first | exact if_pos (by omega) | (exfalso; simp_all; done))
      have hR : doL me room l a = (l, 0) := by rw [doL, if_neg hk0, if_pos hk12, hM]; rfl
      refine g_step rfl (s_val (by first | exact v_loadl_all ty61 rfl rfl rfl rfl rfl | exact v_loadl_part (cs := [_, _, _]) ty61 rfl rfl rfl rfl rfl rfl) rfl rfl ?_)
      refine g_step rfl (s_store_all ty61 rfl rfl rfl rfl rfl rfl ?_)
      refine g_step rfl (s_val (v_assign rfl) rfl rfl ?_)
      refine g_nil ?_
      refine g_next hK61 ?_
      refine g_ret ?_
      refine g_then_ret ?_
      refine g_then_ret ?_
      refine g_end2 (.inl rfl) Try.results30 (.agg ty61 rfl rfl rfl rfl rfl) (.tmp rfl) [] (ASub.refl _) (AHeap.sub_refl _) (fun p hp => by cases hp) ⟨rfl, ?_⟩
      first | (rw [hR]; rfl; done) | (rw [hR]; rfl; rfl)
     ·
      try simp only [NM] at hg141
      refine g_step_yes (j := 2) (t := 141) rfl rfl rfl rfl (s_fieldAddr ty65 fo65_1 ty46 rfl rfl ?_)
      refine g_step_yes (j := 2) (t := 141) rfl rfl rfl rfl (s_fieldAddr ty46 fo46_0 ty3 rfl rfl ?_)
      refine g_step_yes (j := 2) (t := 141) rfl rfl rfl rfl (s_val (v_loadl ty3 rfl rfl rfl rfl) rfl rfl ?_)
      refine g_step_yes (j := 2) (t := 141) rfl rfl rfl rfl (s_fieldAddr ty61 fo61_0 ty3 rfl rfl ?_)
      refine g_step_yes (j := 2) (t := 141) rfl rfl rfl rfl (s_val (v_loadl ty3 rfl rfl rfl rfl) rfl rfl ?_)
      refine g_step_yes (j := 2) (t := 141) rfl rfl rfl rfl (s_val (v_eql rfl rfl) rfl rfl ?_)
      refine g_step rfl (s_val (v_pick_f rfl rfl) rfl rfl ?_)
      refine g_step rfl (s_val (v_move rfl) rfl rfl ?_)
      refine g_split 149 rfl (fun hg149 => ?_) (fun hg149 => ?_)
      ·
       try simp only [NM] at hg149
       refine g_step_no (j := 10) (t := 149) rfl rfl rfl rfl rfl rfl rfl ?_
       refine g_step_no (j := 10) (t := 149) rfl rfl rfl rfl rfl rfl rfl ?_
       refine g_step_no (j := 10) (t := 149) rfl rfl rfl rfl rfl rfl rfl ?_
       refine g_step_no (j := 10) (t := 149) rfl rfl rfl rfl rfl rfl rfl ?_
       refine g_step_no (j := 10) (t := 149) rfl rfl rfl rfl rfl rfl rfl ?_
       refine g_step_no (j := 10) (t := 149) rfl rfl rfl rfl rfl rfl rfl ?_
       refine g_step rfl (s_val (v_pick_t rfl rfl) rfl rfl ?_)
       refine g_step rfl (s_val (v_move rfl) rfl rfl ?_)
       refine g_step_no (j := 18) (t := 157) rfl rfl rfl rfl rfl rfl rfl ?_
       refine g_step_no (j := 18) (t := 157) rfl rfl rfl rfl rfl rfl rfl ?_
       refine g_step_no (j := 18) (t := 157) rfl rfl rfl rfl rfl rfl rfl ?_
       refine g_step_no (j := 18) (t := 157) rfl rfl rfl rfl rfl rfl rfl ?_
       refine g_step_no (j := 18) (t := 157) rfl rfl rfl rfl rfl rfl rfl ?_
       refine g_step_no (j := 18) (t := 157) rfl rfl rfl rfl rfl rfl rfl ?_
       refine g_step rfl (s_val (v_pick_t rfl rfl) rfl rfl ?_)
       refine g_nil ?_
       refine g_next hK60 ?_
       first | refine g_keep [164] [2, 3, 4, 8, 10] [2, 3, 4, 8, 10] (keep_cons rfl keep_nil) (lkeep_cons rfl (lkeep_cons rfl (lkeep_cons rfl (lkeep_cons rfl (lkeep_cons rfl lkeep_nil))))) (keep_cons rfl (keep_cons rfl (keep_cons rfl (keep_cons rfl (keep_cons rfl keep_nil))))) rfl ?_ | refine g_keep [164] [2, 3, 4, 8, 10] [2, 3, 4, 8, 10] rfl rfl rfl rfl ?_
       refine g_cond rfl (fun _ => ?_) (fun h => by cases h)
       refine g_seq (fun K62 hK62 => ?_)
       refine g_region ?_
       have hM : moveT me l a.rc.id a.rc.inc (a.k - 1) a.k = (l, false) := by cases hq : (rfind l a.rc.id).2; simp [moveT, rfind_no hq]; (rw [moveT, rfind_yes hq]; first | exact if_pos (by omega) | (exfalso; simp_all; done))
       have hR : doL me room l a = (l, 0) := by rw [doL, if_neg hk0, if_pos hk12, hM]; rfl
       refine g_step rfl (s_val (by first | exact v_loadl_all ty61 rfl rfl rfl rfl rfl | exact v_loadl_part (cs := [_, _, _]) ty61 rfl rfl rfl rfl rfl rfl) rfl rfl ?_)
       refine g_step rfl (s_store_all ty61 rfl rfl rfl rfl rfl rfl ?_)
       refine g_step rfl (s_val (v_assign rfl) rfl rfl ?_)
       refine g_nil ?_
       refine g_next hK62 ?_
       refine g_ret ?_
       refine g_then_ret ?_
       refine g_then_ret ?_
       refine g_end2 (.inl rfl) Try.results30 (.agg ty61 rfl rfl rfl rfl rfl) (.tmp rfl) [] (ASub.refl _) (AHeap.sub_refl _) (fun p hp => by cases hp) ⟨rfl, ?_⟩
       first | (rw [hR]; rfl; done) | (rw [hR]; rfl; rfl)
      ·
       try simp only [NM] at hg149
       refine g_step_yes (j := 10) (t := 149) rfl rfl rfl rfl (s_fieldAddr ty46 fo46_1 ty3 rfl rfl ?_)
       refine g_step_yes (j := 10) (t := 149) rfl rfl rfl rfl (s_val (v_loadl ty3 rfl rfl rfl rfl) rfl rfl ?_)
       refine g_step_yes (j := 10) (t := 149) rfl rfl rfl rfl (s_fieldAddr ty65 fo65_1 ty46 rfl rfl ?_)
       refine g_step_yes (j := 10) (t := 149) rfl rfl rfl rfl (s_fieldAddr ty46 fo46_1 ty3 rfl rfl ?_)
       refine g_step_yes (j := 10) (t := 149) rfl rfl rfl rfl (s_val (v_loadl ty3 rfl rfl rfl rfl) rfl rfl ?_)
       refine g_step_yes (j := 10) (t := 149) rfl rfl rfl rfl (s_val (v_neq rfl rfl) rfl rfl ?_)
       refine g_step rfl (s_val (v_pick_f rfl rfl) rfl rfl ?_)
       refine g_step rfl (s_val (v_move rfl) rfl rfl ?_)
       refine g_split 157 rfl (fun hg157 => ?_) (fun hg157 => ?_)
       ·
        try simp only [NM] at hg157
        refine g_step_no (j := 18) (t := 157) rfl rfl rfl rfl rfl rfl rfl ?_
        refine g_step_no (j := 18) (t := 157) rfl rfl rfl rfl rfl rfl rfl ?_
        refine g_step_no (j := 18) (t := 157) rfl rfl rfl rfl rfl rfl rfl ?_
        refine g_step_no (j := 18) (t := 157) rfl rfl rfl rfl rfl rfl rfl ?_
        refine g_step_no (j := 18) (t := 157) rfl rfl rfl rfl rfl rfl rfl ?_
        refine g_step_no (j := 18) (t := 157) rfl rfl rfl rfl rfl rfl rfl ?_
        refine g_step rfl (s_val (v_pick_t rfl rfl) rfl rfl ?_)
        refine g_nil ?_
        refine g_next hK60 ?_
        first | refine g_keep [164] [2, 3, 4, 8, 10] [2, 3, 4, 8, 10] (keep_cons rfl keep_nil) (lkeep_cons rfl (lkeep_cons rfl (lkeep_cons rfl (lkeep_cons rfl (lkeep_cons rfl lkeep_nil))))) (keep_cons rfl (keep_cons rfl (keep_cons rfl (keep_cons rfl (keep_cons rfl keep_nil))))) rfl ?_ | refine g_keep [164] [2, 3, 4, 8, 10] [2, 3, 4, 8, 10] rfl rfl rfl rfl ?_
        refine g_cond rfl (fun _ => ?_) (fun h => by cases h)
        refine g_seq (fun K63 hK63 => ?_)
        refine g_region ?_
        have hM : moveT me l a.rc.id a.rc.inc (a.k - 1) a.k = (l, false) := by cases hq : (rfind l a.rc.id).2; simp [moveT, rfind_no hq]; (rw [moveT, rfind_yes hq]; first | exact if_pos (by omega) | (exfalso; simp_all; done))
        have hR : doL me room l a = (l, 0) := by rw [doL, if_neg hk0, if_pos hk12, hM]; rfl
        refine g_step rfl (s_val (by first | exact v_loadl_all ty61 rfl rfl rfl rfl rfl | exact v_loadl_part (cs := [_, _, _]) ty61 rfl rfl rfl rfl rfl rfl) rfl rfl ?_)
        refine g_step rfl (s_store_all ty61 rfl rfl rfl rfl rfl rfl ?_)
        refine g_step rfl (s_val (v_assign rfl) rfl rfl ?_)
        refine g_nil ?_
        refine g_next hK63 ?_
        refine g_ret ?_
        refine g_then_ret ?_
        refine g_then_ret ?_
        refine g_end2 (.inl rfl) Try.results30 (.agg ty61 rfl rfl rfl rfl rfl) (.tmp rfl) [] (ASub.refl _) (AHeap.sub_refl _) (fun p hp => by cases hp) ⟨rfl, ?_⟩
        first | (rw [hR]; rfl; done) | (rw [hR]; rfl; rfl)
       ·
        try simp only [NM] at hg157
        refine g_step_yes (j := 18) (t := 157) rfl rfl rfl rfl (s_fieldAddr ty46 fo46_2 ty3 rfl rfl ?_)
        refine g_step_yes (j := 18) (t := 157) rfl rfl rfl rfl (s_val (v_loadl ty3 rfl rfl rfl rfl) rfl rfl ?_)
        refine g_step_yes (j := 18) (t := 157) rfl rfl rfl rfl (s_fieldAddr ty65 fo65_0 ty3 rfl rfl ?_)
        refine g_step_yes (j := 18) (t := 157) rfl rfl rfl rfl (s_val (v_loadl ty3 rfl rfl rfl rfl) rfl rfl ?_)
        refine g_step_yes (j := 18) (t := 157) rfl rfl rfl rfl (s_val (v_sub_ rfl rfl (by omega)) rfl rfl ?_)
        refine g_step_yes (j := 18) (t := 157) rfl rfl rfl rfl (s_val (v_neq rfl rfl) rfl rfl ?_)
        refine g_step rfl (s_val (v_pick_f rfl rfl) rfl rfl ?_)
        refine g_nil ?_
        refine g_next hK60 ?_
        first | refine g_keep [164] [2, 3, 4, 8, 10] [2, 3, 4, 8, 10] (keep_cons rfl keep_nil) (lkeep_cons rfl (lkeep_cons rfl (lkeep_cons rfl (lkeep_cons rfl (lkeep_cons rfl lkeep_nil))))) (keep_cons rfl (keep_cons rfl (keep_cons rfl (keep_cons rfl (keep_cons rfl keep_nil))))) rfl ?_ | refine g_keep [164] [2, 3, 4, 8, 10] [2, 3, 4, 8, 10] rfl rfl rfl rfl ?_
        refine g_cond rfl (fun hc164 => ?_) (fun hc164 => ?_)
        ·
         try simp only [NM] at hc164
         refine g_seq (fun K64 hK64 => ?_)
         refine g_region ?_
         have hM : moveT me l a.rc.id a.rc.inc (a.k - 1) a.k = (l, false) := by cases hq : (rfind l a.rc.id).2; simp [moveT, rfind_no hq]; (rw [moveT, rfind_yes hq]; first | exact if_pos (by omega) | (exfalso; simp_all; done))
         have hR : doL me room l a = (l, 0) := by rw [doL, if_neg hk0, if_pos hk12, hM]; rfl
         refine g_step rfl (s_val (by first | exact v_loadl_all ty61 rfl rfl rfl rfl rfl | exact v_loadl_part (cs := [_, _, _]) ty61 rfl rfl rfl rfl rfl rfl) rfl rfl ?_)
         refine g_step rfl (s_store_all ty61 rfl rfl rfl rfl rfl rfl ?_)
         refine g_step rfl (s_val (v_assign rfl) rfl rfl ?_)
         refine g_nil ?_
         refine g_next hK64 ?_
         refine g_ret ?_
         refine g_then_ret ?_
         refine g_then_ret ?_
         refine g_end2 (.inl rfl) Try.results30 (.agg ty61 rfl rfl rfl rfl rfl) (.tmp rfl) [] (ASub.refl _) (AHeap.sub_refl _) (fun p hp => by cases hp) ⟨rfl, ?_⟩
         first | (rw [hR]; rfl; done) | (rw [hR]; rfl; rfl)
        ·
         try simp only [NM] at hc164
         refine g_skip ?_
         refine g_next hK59 ?_
         refine g_seq (fun K65 hK65 => ?_)
         refine g_region ?_
         have hy := rfind_yes (l := l) (id := a.rc.id) (by simp_all)
         have hM : moveT me l a.rc.id a.rc.inc (a.k - 1) a.k = (rput l (withSt (rfind l a.rc.id).1 a.k), true) := by rw [moveT, hy]; exact if_neg (by omega)
         have hR : doL me room l a = (rput l (withSt (rfind l a.rc.id).1 a.k), 1) := by rw [doL, if_neg hk0, if_pos hk12, hM]; rfl
         refine g_step rfl (s_fieldAddr ty65 fo65_0 ty3 rfl rfl ?_)
         refine g_step rfl (s_val (v_loadl ty3 rfl rfl rfl rfl) rfl rfl ?_)
         refine g_step rfl (s_fieldAddr ty46 fo46_2 ty3 rfl rfl ?_)
         refine g_step rfl (s_store (new := (encR (withSt (rfind l a.rc.id).1 a.k))) ty3 rfl rfl rfl rfl rfl rfl rfl ?_)
         refine g_nil ?_
         refine g_next hK65 ?_
         refine g_seq (fun K66 hK66 => ?_)
         refine g_region ?_
         refine g_step rfl (s_fieldAddr ty61 fo61_2 ty22 rfl rfl ?_)
         refine g_step rfl (s_val (v_loadl ty22 rfl rfl rfl rfl) rfl rfl ?_)
         refine g_step rfl (s_val (by first | exact v_loadl_all ty46 rfl rfl rfl rfl rfl | exact v_loadl_part (cs := [_, _, _, _, _, _, _]) ty46 rfl rfl rfl rfl rfl rfl) rfl rfl ?_)
         refine g_step rfl (s_callp rfl rfl rfl (put_ok l (withSt (rfind l a.rc.id).1 a.k) _ _ rfl (by omega) hs (hsY)) ?_)
         rintro _ rfl
         refine g_step rfl (s_fieldAddr ty61 fo61_2 ty22 rfl rfl ?_)
         refine g_step rfl (s_store (new := (mdl me room (rput l (withSt (rfind l a.rc.id).1 a.k)))) ty22 rfl rfl rfl rfl rfl rfl rfl ?_)
         refine g_nil ?_
         refine g_next hK66 ?_
         refine g_seq (fun K67 hK67 => ?_)
         refine g_region ?_
         refine g_step rfl (s_val (by first | exact v_loadl_all ty61 rfl rfl rfl rfl rfl | exact v_loadl_part (cs := [_, _, _]) ty61 rfl rfl rfl rfl rfl rfl) rfl rfl ?_)
         refine g_step rfl (s_store_all ty61 rfl rfl rfl rfl rfl rfl ?_)
         refine g_step rfl (s_val (v_assign rfl) rfl rfl ?_)
         refine g_nil ?_
         refine g_next hK67 ?_
         refine g_ret ?_
         refine g_then_ret ?_
         refine g_end2 (.inl rfl) Try.results30 (.agg ty61 rfl rfl rfl rfl rfl) (.tmp rfl) [] (ASub.refl _) (AHeap.sub_refl _) (fun p hp => by cases hp) ⟨rfl, ?_⟩
         first | (rw [hR]; rfl; done) | (rw [hR]; rfl; rfl)
    ·
     try simp only [NM] at hc138
     refine g_skip ?_
     refine g_next hK48 ?_
     refine g_seq (fun K68 hK68 => ?_)
     refine g_seq (fun K69 hK69 => ?_)
     refine g_region ?_
     refine g_step rfl (s_fieldAddr ty65 fo65_0 ty3 rfl rfl ?_)
     refine g_step rfl (s_val (v_loadl ty3 rfl rfl rfl rfl) rfl rfl ?_)
     refine g_step rfl (s_val (v_eql rfl rfl) rfl rfl ?_)
     refine g_nil ?_
     refine g_next hK69 ?_
     refine g_cond rfl (fun hc177 => ?_) (fun hc177 => ?_)
     ·
      try simp only [NM] at hc177
      have hk12 : ¬ (a.k = 1 ∨ a.k = 2) := by omega
      have hk3 : a.k = 3 := by omega
      refine g_seq (fun K70 hK70 => ?_)
      refine g_seq (fun K71 hK71 => ?_)
      refine g_region ?_
      refine g_step rfl (s_fieldAddr ty65 fo65_1 ty46 rfl rfl ?_)
      refine g_step rfl (s_fieldAddr ty46 fo46_5 ty44 rfl rfl ?_)
      refine g_step rfl (s_val (v_loadl ty44 rfl rfl rfl rfl) rfl rfl ?_)
      refine g_step rfl (s_callp rfl rfl rfl (bagValid_ok a.rc.bag _ _ rfl hb) ?_)
      rintro _ rfl
      refine g_step rfl (s_val (v_not rfl) rfl rfl ?_)
      refine g_nil ?_
      refine g_next hK71 ?_
      refine g_cond rfl (fun hc182 => ?_) (fun hc182 => ?_)
      ·
       try simp only [NM] at hc182
       refine g_seq (fun K72 hK72 => ?_)
       refine g_region ?_
       have hR : doL me room l a = (l, 1) := by rw [doL, if_neg hk0, if_neg hk12, if_pos hk3, changeT]; exact if_pos (by simp_all)
       refine g_step rfl (s_val (by first | exact v_loadl_all ty61 rfl rfl rfl rfl rfl | exact v_loadl_part (cs := [_, _, _]) ty61 rfl rfl rfl rfl rfl rfl) rfl rfl ?_)
       refine g_step rfl (s_store_all ty61 rfl rfl rfl rfl rfl rfl ?_)
       refine g_step rfl (s_val (v_assign rfl) rfl rfl ?_)
       refine g_nil ?_
       refine g_next hK72 ?_
       refine g_ret ?_
       refine g_then_ret ?_
       refine g_then_ret ?_
       refine g_end2 (.inl rfl) Try.results30 (.agg ty61 rfl rfl rfl rfl rfl) (.tmp rfl) [] (ASub.refl _) (AHeap.sub_refl _) (fun p hp => by cases hp) ⟨rfl, ?_⟩
       first | (rw [hR]; rfl; done) | (rw [hR]; rfl; rfl)
      ·
       try simp only [NM] at hc182
       refine g_skip ?_
       refine g_next hK70 ?_
       refine g_seq (fun K73 hK73 => ?_)
       refine g_seq (fun K74 hK74 => ?_)
       refine g_region ?_
       have hvb : ¬ (bagValid a.rc.bag = false) := by simp_all
       have hC : doL me room l a = if o.st = 3 then (l, 15) else if 281474976710655 ≤ o.inc then (l, 6) else (rput l (wthBag o a.rc.bag), 0) := by rw [doL, if_neg hk0, if_neg hk12, if_pos hk3, changeT, if_neg hvb, ho]
       refine g_step rfl (s_fieldAddr ty46 fo46_2 ty3 rfl rfl ?_)
       refine g_step rfl (s_val (v_loadl ty3 rfl rfl rfl rfl) rfl rfl ?_)
       refine g_step rfl (s_val (v_eql rfl rfl) rfl rfl ?_)
       refine g_nil ?_
       refine g_next hK74 ?_
       refine g_cond rfl (fun hc186 => ?_) (fun hc186 => ?_)
       ·
        try simp only [NM] at hc186
        refine g_seq (fun K75 hK75 => ?_)
        refine g_region ?_
        have hR : doL me room l a = (l, 15) := by rw [hC, if_pos (by omega)]
        refine g_step rfl (s_val (by first | exact v_loadl_all ty61 rfl rfl rfl rfl rfl | exact v_loadl_part (cs := [_, _, _]) ty61 rfl rfl rfl rfl rfl rfl) rfl rfl ?_)
        refine g_step rfl (s_store_all ty61 rfl rfl rfl rfl rfl rfl ?_)
        refine g_step rfl (s_val (v_assign rfl) rfl rfl ?_)
        refine g_nil ?_
        refine g_next hK75 ?_
        refine g_ret ?_
        refine g_then_ret ?_
        refine g_then_ret ?_
        refine g_end2 (.inl rfl) Try.results30 (.agg ty61 rfl rfl rfl rfl rfl) (.tmp rfl) [] (ASub.refl _) (AHeap.sub_refl _) (fun p hp => by cases hp) ⟨rfl, ?_⟩
        first | (rw [hR]; rfl; done) | (rw [hR]; rfl; rfl)
       ·
        try simp only [NM] at hc186
        refine g_skip ?_
        refine g_next hK73 ?_
        refine g_seq (fun K76 hK76 => ?_)
        refine g_seq (fun K77 hK77 => ?_)
        refine g_region ?_
        refine g_step rfl (s_fieldAddr ty46 fo46_1 ty3 rfl rfl ?_)
        refine g_step rfl (s_val (v_loadl ty3 rfl rfl rfl rfl) rfl rfl ?_)
        refine g_step rfl (s_val (v_geq rfl rfl) rfl rfl ?_)
        refine g_nil ?_
        refine g_next hK77 ?_
        refine g_cond rfl (fun hc190 => ?_) (fun hc190 => ?_)
        ·
         try simp only [NM] at hc190
         refine g_seq (fun K78 hK78 => ?_)
         refine g_region ?_
         have hR : doL me room l a = (l, 6) := by rw [hC, if_neg (by omega), if_pos (by omega)]
         refine g_step rfl (s_val (by first | exact v_loadl_all ty61 rfl rfl rfl rfl rfl | exact v_loadl_part (cs := [_, _, _]) ty61 rfl rfl rfl rfl rfl rfl) rfl rfl ?_)
         refine g_step rfl (s_store_all ty61 rfl rfl rfl rfl rfl rfl ?_)
         refine g_step rfl (s_val (v_assign rfl) rfl rfl ?_)
         refine g_nil ?_
         refine g_next hK78 ?_
         refine g_ret ?_
         refine g_then_ret ?_
         refine g_then_ret ?_
         refine g_end2 (.inl rfl) Try.results30 (.agg ty61 rfl rfl rfl rfl rfl) (.tmp rfl) [] (ASub.refl _) (AHeap.sub_refl _) (fun p hp => by cases hp) ⟨rfl, ?_⟩
         first | (rw [hR]; rfl; done) | (rw [hR]; rfl; rfl)
        ·
         try simp only [NM] at hc190
         refine g_skip ?_
         refine g_next hK76 ?_
         refine g_seq (fun K79 hK79 => ?_)
         refine g_region ?_
         have hR : doL me room l a = (rput l (wthBag o a.rc.bag), 0) := by rw [hC, if_neg (by omega), if_neg (by omega)]
         refine g_step rfl (s_fieldAddr ty46 fo46_1 ty3 rfl rfl ?_)
         refine g_step rfl (s_val (v_loadl ty3 rfl rfl rfl rfl) rfl rfl ?_)
         refine g_step rfl (s_val (v_add rfl rfl (by omega)) rfl rfl ?_)
         refine g_step rfl (s_fieldAddr ty46 fo46_1 ty3 rfl rfl ?_)
         refine g_step rfl (s_store (new := (encR (wthInc o (o.inc + 1)))) ty3 rfl rfl rfl rfl rfl rfl rfl ?_)
         refine g_nil ?_
         refine g_next hK79 ?_
         refine g_seq (fun K80 hK80 => ?_)
         refine g_region ?_
         refine g_step rfl (s_fieldAddr ty46 fo46_4 ty4 rfl rfl ?_)
         refine g_step rfl (s_store (new := (encR (⟨o.id, o.inc + 1, o.st, o.sp, false, o.bag⟩ : Rc))) ty4 rfl rfl rfl rfl rfl rfl rfl ?_)
         refine g_nil ?_
         refine g_next hK80 ?_
         refine g_seq (fun K81 hK81 => ?_)
         refine g_region ?_
         refine g_step rfl (s_fieldAddr ty65 fo65_1 ty46 rfl rfl ?_)
         refine g_step rfl (s_fieldAddr ty46 fo46_5 ty44 rfl rfl ?_)
         refine g_step rfl (s_val (v_loadl ty44 rfl rfl rfl rfl) rfl rfl ?_)
         refine g_step rfl (s_fieldAddr ty46 fo46_5 ty44 rfl rfl ?_)
         refine g_step rfl (s_store (new := (encR (wthBag o a.rc.bag))) ty44 rfl rfl rfl rfl rfl rfl rfl ?_)
         refine g_nil ?_
         refine g_next hK81 ?_
         refine g_seq (fun K82 hK82 => ?_)
         refine g_region ?_
         refine g_step rfl (s_fieldAddr ty61 fo61_2 ty22 rfl rfl ?_)
         refine g_step rfl (s_val (v_loadl ty22 rfl rfl rfl rfl) rfl rfl ?_)
         refine g_step rfl (s_val (by first | exact v_loadl_all ty46 rfl rfl rfl rfl rfl | exact v_loadl_part (cs := [_, _, _, _, _, _, _]) ty46 rfl rfl rfl rfl rfl rfl) rfl rfl ?_)
         refine g_step rfl (s_callp rfl rfl rfl (put_ok l (wthBag o a.rc.bag) _ _ rfl (by omega) hs (hb)) ?_)
         rintro _ rfl
         refine g_step rfl (s_fieldAddr ty61 fo61_2 ty22 rfl rfl ?_)
         refine g_step rfl (s_store (new := (mdl me room (rput l (wthBag o a.rc.bag)))) ty22 rfl rfl rfl rfl rfl rfl rfl ?_)
         refine g_nil ?_
         refine g_next hK82 ?_
         refine g_seq (fun K83 hK83 => ?_)
         refine g_region ?_
         refine g_step rfl (s_val (by first | exact v_loadl_all ty61 rfl rfl rfl rfl rfl | exact v_loadl_part (cs := [_, _, _]) ty61 rfl rfl rfl rfl rfl rfl) rfl rfl ?_)
         refine g_step rfl (s_store_all ty61 rfl rfl rfl rfl rfl rfl ?_)
         refine g_step rfl (s_val (v_assign rfl) rfl rfl ?_)
         refine g_nil ?_
         refine g_next hK83 ?_
         first | refine g_keep [5] [4] [4] (keep_cons rfl keep_nil) (lkeep_cons rfl lkeep_nil) (keep_cons rfl keep_nil) rfl ?_ | refine g_keep [5] [4] [4] rfl rfl rfl rfl ?_
         refine g_ret ?_
         refine g_then_ret ?_
         refine g_end2 (.inl rfl) Try.results30 (.agg ty61 rfl rfl rfl rfl rfl) (.tmp rfl) [] (ASub.refl _) (AHeap.sub_refl _) (fun p hp => by cases hp) ⟨rfl, ?_⟩
         first | (rw [hR]; rfl; done) | (rw [hR]; rfl; rfl)
     ·
      try simp only [NM] at hc177
      have hk12 : ¬ (a.k = 1 ∨ a.k = 2) := by omega
      have hk3 : ¬ (a.k = 3) := by omega
      refine g_skip ?_
      refine g_next hK68 ?_
      refine g_seq (fun K84 hK84 => ?_)
      refine g_seq (fun K85 hK85 => ?_)
      refine g_region ?_
      refine g_step rfl (s_fieldAddr ty46 fo46_2 ty3 rfl rfl ?_)
      refine g_step rfl (s_val (v_loadl ty3 rfl rfl rfl rfl) rfl rfl ?_)
      refine g_step rfl (s_val (v_eql rfl rfl) rfl rfl ?_)
      refine g_nil ?_
      refine g_next hK85 ?_
      refine g_cond rfl (fun hc209 => ?_) (fun hc209 => ?_)
      ·
       try simp only [NM] at hc209
       refine g_seq (fun K86 hK86 => ?_)
       refine g_region ?_
       have hR : doL me room l a = (l, 0) := by rw [doL, if_neg hk0, if_neg hk12, if_neg hk3, leaveT, ho]; show ((if _ then (l, false) else _ : List Rc × Bool).1, oneI (if _ then (l, false) else _ : List Rc × Bool).2) = _; rw [if_pos (by omega)]; rfl
       refine g_step rfl (s_val (by first | exact v_loadl_all ty61 rfl rfl rfl rfl rfl | exact v_loadl_part (cs := [_, _, _]) ty61 rfl rfl rfl rfl rfl rfl) rfl rfl ?_)
       refine g_step rfl (s_store_all ty61 rfl rfl rfl rfl rfl rfl ?_)
       refine g_step rfl (s_val (v_assign rfl) rfl rfl ?_)
       refine g_nil ?_
       refine g_next hK86 ?_
       refine g_ret ?_
       refine g_then_ret ?_
       refine g_end2 (.inl rfl) Try.results30 (.agg ty61 rfl rfl rfl rfl rfl) (.tmp rfl) [] (ASub.refl _) (AHeap.sub_refl _) (fun p hp => by cases hp) ⟨rfl, ?_⟩
       first | (rw [hR]; rfl; done) | (rw [hR]; rfl; rfl)
      ·
       try simp only [NM] at hc209
       refine g_skip ?_
       refine g_next hK84 ?_
       refine g_seq (fun K87 hK87 => ?_)
       refine g_region ?_
       have hR : doL me room l a = (rput l (withSt o 3), 1) := by rw [doL, if_neg hk0, if_neg hk12, if_neg hk3, leaveT, ho]; show ((if _ then (l, false) else _ : List Rc × Bool).1, oneI (if _ then (l, false) else _ : List Rc × Bool).2) = _; rw [if_neg (by omega)]; rfl
       refine g_step rfl (s_fieldAddr ty46 fo46_2 ty3 rfl rfl ?_)
       refine g_step rfl (s_store (new := (encR (withSt o 3))) ty3 rfl rfl rfl rfl rfl rfl rfl ?_)
       refine g_nil ?_
       refine g_next hK87 ?_
       refine g_seq (fun K88 hK88 => ?_)
       refine g_region ?_
       refine g_step rfl (s_fieldAddr ty61 fo61_2 ty22 rfl rfl ?_)
       refine g_step rfl (s_val (v_loadl ty22 rfl rfl rfl rfl) rfl rfl ?_)
       refine g_step rfl (s_val (by first | exact v_loadl_all ty46 rfl rfl rfl rfl rfl | exact v_loadl_part (cs := [_, _, _, _, _, _, _]) ty46 rfl rfl rfl rfl rfl rfl) rfl rfl ?_)
       refine g_step rfl (s_callp rfl rfl rfl (put_ok l (withSt o 3) _ _ rfl (by omega) hs (hso)) ?_)
       rintro _ rfl
       refine g_step rfl (s_fieldAddr ty61 fo61_2 ty22 rfl rfl ?_)
       refine g_step rfl (s_store (new := (mdl me room (rput l (withSt o 3)))) ty22 rfl rfl rfl rfl rfl rfl rfl ?_)
       refine g_nil ?_
       refine g_next hK88 ?_
       refine g_seq (fun K89 hK89 => ?_)
       refine g_region ?_
       refine g_step rfl (s_val (by first | exact v_loadl_all ty61 rfl rfl rfl rfl rfl | exact v_loadl_part (cs := [_, _, _]) ty61 rfl rfl rfl rfl rfl rfl) rfl rfl ?_)
       refine g_step rfl (s_store_all ty61 rfl rfl rfl rfl rfl rfl ?_)
       refine g_step rfl (s_val (v_assign rfl) rfl rfl ?_)
       refine g_nil ?_
       refine g_next hK89 ?_
       refine g_ret ?_
       refine g_end2 (.inl rfl) Try.results30 (.agg ty61 rfl rfl rfl rfl rfl) (.tmp rfl) [] (ASub.refl _) (AHeap.sub_refl _) (fun p hp => by cases hp) ⟨rfl, ?_⟩
       first | (rw [hR]; rfl; done) | (rw [hR]; rfl; rfl)

end Go.Proofs.Ytgipbhfblmblcaa

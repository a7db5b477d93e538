import Derived.Test.YtgedefcjngofkaaCoordA
set_option maxHeartbeats 8000000
set_option linter.unusedSimpArgs false
set_option linter.unusedVariables false
set_option maxRecDepth 100000
namespace Go.Proofs.Ytgedefcjngofkaa
open Go Go.Proofs.Ytgedefcjngofkaa.AM
theorem coordBegins_ok (t : Sp) (wd : Int) (l : List Rc) (hh : ∀ r ∈ l, Held r.bag) (hl : l.length ≤ 140737488351232) (G : AHeap) : PCalls Try.prog 8 [encSp t, .int .i64 wd, encRs l] G (fun v => v = .bool true) := by
 refine LCalls.intro 157 fi8 rfl Try.ntmps8 rfl (fun _ h => h.elim) (fun H hH w0 hw0 => ?_)
 refine g_seq (fun K0 hK0 => ?_)
 refine g_region ?_
 refine g_step rfl (s_box rfl rfl rfl rfl ?_)
 refine g_step rfl (s_val (v_assign rfl) rfl rfl ?_)
 refine g_nil ?_
 refine g_next hK0 ?_
 refine g_seq (fun K1 hK1 => ?_)
 refine g_seq (fun K2 hK2 => ?_)
 refine g_region ?_
 refine g_step rfl (s_val (v_move rfl) rfl rfl ?_)
 refine g_step rfl (s_callp rfl rfl rfl (fewL_ok l _ _ rfl hh hl) ?_)
 rintro _ rfl
 refine g_step rfl (s_val (v_not rfl) rfl rfl ?_)
 refine g_nil ?_
 refine g_next hK2 ?_
 refine g_cond rfl (fun hc16 => ?_) (fun hc16 => ?_)
 ·
  try simp only [NM] at hc16
  refine g_seq (fun K3 hK3 => ?_)
  refine g_region ?_
  refine g_step rfl (s_callp rfl rfl rfl (awake33_ok _) ?_)
  rintro _ rfl
  refine g_step rfl (s_val (v_assign rfl) rfl rfl ?_)
  refine g_nil ?_
  refine g_next hK3 ?_
  refine g_ret ?_
  refine g_then_ret ?_
  refine g_end1 (.inl rfl) Try.results8 (.tmp rfl) [] (ASub.refl _) (by first | exact AHeap.sub_refl _ | exact hsH) (fun p hp => by cases hp) ⟨rfl, ?_⟩
  rfl
 ·
  try simp only [NM] at hc16
  obtain ⟨hl20, hs⟩ := fewL_small (l := l) (by simpa using hc16)
  refine g_skip ?_
  refine g_next hK1 ?_
  refine g_seq (fun K4 hK4 => ?_)
  refine g_region ?_
  rcases cn_cases t wd with hv | ⟨hv, hb⟩ | ⟨hv, h1, h3, hb⟩
  ·
   refine g_step rfl (s_val (by first | exact v_loadl_all ty24 rfl rfl rfl rfl rfl | exact v_loadl_part (cs := [_, _]) ty24 rfl rfl rfl rfl rfl rfl) rfl rfl ?_)
   refine g_step rfl (s_val (v_move rfl) rfl rfl ?_)
   refine g_step rfl (s_callp rfl rfl rfl (cnew1_ok t wd _ hv) ?_)
   rintro _ rfl
   refine g_step rfl (s_val (v_move rfl) rfl rfl ?_)
   refine g_step rfl (s_val (v_extract rfl rfl) rfl rfl ?_)
   refine g_step rfl (s_val (v_extract rfl rfl) rfl rfl ?_)
   refine g_step rfl (s_val (v_assign rfl) rfl rfl ?_)
   refine g_step rfl (s_val (v_assign rfl) rfl rfl ?_)
   refine g_nil ?_
   refine g_next hK4 ?_
   refine g_seq (fun K5 hK5 => ?_)
   refine g_seq (fun K6 hK6 => ?_)
   refine g_region ?_
   refine g_step rfl (s_val (by first | exact v_loadl_all ty24 rfl rfl rfl rfl rfl | exact v_loadl_part (cs := [_, _]) ty24 rfl rfl rfl rfl rfl rfl) rfl rfl ?_)
   refine g_step rfl (s_callp rfl rfl rfl (spValid_ok t _) ?_)
   rintro _ rfl
   refine g_step rfl (s_val (v_not rfl) rfl rfl ?_)
   refine g_nil ?_
   refine g_next hK6 ?_
   refine g_cond rfl (fun hc26 => ?_) (fun hc26 => ?_)
   ·
    try simp only [NM] at hc26
    refine g_seq (fun K7 hK7 => ?_)
    refine g_region ?_
    refine g_step rfl (s_val (v_move rfl) rfl rfl ?_)
    refine g_step rfl (s_val (by first | exact v_ptr_eql_nil ty53 rfl rfl rfl | exact v_nil_eql_nil ty53 rfl rfl | exact v_ptrO_eql ty53 rfl rfl) rfl rfl ?_)
    refine g_step rfl (s_val (v_move rfl) rfl rfl ?_)
    refine g_split 29 rfl (fun hg29 => ?_) (fun hg29 => ?_)
    ·
     try simp only [NM] at hg29
     refine g_step_yes (j := 2) (t := 29) rfl rfl rfl rfl (s_val (v_move rfl) rfl rfl ?_)
     refine g_step_yes (j := 2) (t := 29) rfl rfl rfl rfl (s_val (v_eql rfl rfl) rfl rfl ?_)
     refine g_step rfl (s_val (v_pick_t rfl rfl) rfl rfl ?_)
     refine g_step rfl (s_val (v_move rfl) rfl rfl ?_)
     refine g_split 33 rfl (fun hg33 => ?_) (fun hg33 => ?_)
     ·
      try simp only [NM] at hg33
      refine g_step_yes (j := 6) (t := 33) rfl rfl rfl rfl (s_callp rfl rfl rfl (awake33_ok _) ?_)
      rintro _ rfl
      refine g_step rfl (s_val (v_pick_t rfl rfl) rfl rfl ?_)
      refine g_step rfl (s_val (v_assign rfl) rfl rfl ?_)
      refine g_nil ?_
      refine g_next hK7 ?_
      first | refine g_keep [6] [] [] (keep_cons rfl keep_nil) lkeep_nil keep_nil rfl ?_ | refine g_keep [6] [] [] rfl rfl rfl rfl ?_
      refine g_ret ?_
      refine g_then_ret ?_
      refine g_end1 (.inl rfl) Try.results8 (.tmp rfl) [] (ASub.refl _) (by first | exact AHeap.sub_refl _ | exact hsH) (fun p hp => by cases hp) ⟨rfl, ?_⟩
      rfl
     · exfalso; (try simp only [NM] at hg33); first | (simp at hg33; done) | exact hg33 rfl | (exfalso; simp_all; done)
    · exfalso; (try simp only [NM] at hg29); first | (simp at hg29; done) | exact hg29 rfl | (exfalso; simp_all; done)
   · exfalso; (try simp only [NM] at hc26); simp_all
  ·
   refine g_step rfl (s_val (by first | exact v_loadl_all ty24 rfl rfl rfl rfl rfl | exact v_loadl_part (cs := [_, _]) ty24 rfl rfl rfl rfl rfl rfl) rfl rfl ?_)
   refine g_step rfl (s_val (v_move rfl) rfl rfl ?_)
   refine g_step rfl (s_callp rfl rfl rfl (cnew5_ok t wd _ hv hb) ?_)
   rintro _ rfl
   refine g_step rfl (s_val (v_move rfl) rfl rfl ?_)
   refine g_step rfl (s_val (v_extract rfl rfl) rfl rfl ?_)
   refine g_step rfl (s_val (v_extract rfl rfl) rfl rfl ?_)
   refine g_step rfl (s_val (v_assign rfl) rfl rfl ?_)
   refine g_step rfl (s_val (v_assign rfl) rfl rfl ?_)
   refine g_nil ?_
   refine g_next hK4 ?_
   refine g_seq (fun K8 hK8 => ?_)
   refine g_seq (fun K9 hK9 => ?_)
   refine g_region ?_
   refine g_step rfl (s_val (by first | exact v_loadl_all ty24 rfl rfl rfl rfl rfl | exact v_loadl_part (cs := [_, _]) ty24 rfl rfl rfl rfl rfl rfl) rfl rfl ?_)
   refine g_step rfl (s_callp rfl rfl rfl (spValid_ok t _) ?_)
   rintro _ rfl
   refine g_step rfl (s_val (v_not rfl) rfl rfl ?_)
   refine g_nil ?_
   refine g_next hK9 ?_
   refine g_cond rfl (fun hc26 => ?_) (fun hc26 => ?_)
   · exfalso; (try simp only [NM] at hc26); simp_all
   ·
    try simp only [NM] at hc26
    refine g_skip ?_
    refine g_next hK8 ?_
    refine g_seq (fun K10 hK10 => ?_)
    refine g_seq (fun K11 hK11 => ?_)
    refine g_region ?_
    have hv2 := spValid_is hv
    refine g_step rfl (s_val (v_move rfl) rfl rfl ?_)
    refine g_step rfl (s_val (v_lss rfl rfl) rfl rfl ?_)
    refine g_step rfl (s_val (v_move rfl) rfl rfl ?_)
    refine g_split 38 rfl (fun hg38 => ?_) (fun hg38 => ?_)
    ·
     try simp only [NM] at hg38
     refine g_step_no (j := 2) (t := 38) rfl rfl rfl rfl rfl rfl rfl ?_
     refine g_step_no (j := 2) (t := 38) rfl rfl rfl rfl rfl rfl rfl ?_
     refine g_step rfl (s_val (v_pick_t rfl rfl) rfl rfl ?_)
     refine g_step rfl (s_val (v_move rfl) rfl rfl ?_)
     refine g_step_no (j := 6) (t := 42) rfl rfl rfl rfl rfl rfl rfl ?_
     refine g_step_no (j := 6) (t := 42) rfl rfl rfl rfl rfl rfl rfl ?_
     refine g_step_no (j := 6) (t := 42) rfl rfl rfl rfl rfl rfl rfl ?_
     refine g_step_no (j := 6) (t := 42) rfl rfl rfl rfl rfl rfl rfl ?_
     refine g_step_no (j := 6) (t := 42) rfl rfl rfl rfl rfl rfl rfl ?_
     refine g_step_no (j := 6) (t := 42) rfl rfl rfl rfl rfl rfl rfl ?_
     refine g_step_no (j := 6) (t := 42) rfl rfl rfl rfl rfl rfl rfl ?_
     refine g_step_no (j := 6) (t := 42) rfl rfl rfl rfl rfl rfl rfl ?_
     refine g_step rfl (s_val (v_pick_t rfl rfl) rfl rfl ?_)
     refine g_nil ?_
     refine g_next hK11 ?_
     first | refine g_keep [1, 2, 7, 8, 51] [3] [3] (keep_cons rfl (keep_cons rfl (keep_cons rfl (keep_cons rfl (keep_cons rfl keep_nil))))) (lkeep_cons rfl lkeep_nil) (keep_cons rfl keep_nil) rfl ?_ | refine g_keep [1, 2, 7, 8, 51] [3] [3] rfl rfl rfl rfl ?_
     refine g_cond rfl (fun _ => ?_) (fun h => by cases h)
     refine g_seq (fun K12 hK12 => ?_)
     refine g_region ?_
     refine g_step rfl (s_val (v_move rfl) rfl rfl ?_)
     refine g_step rfl (s_val (by first | exact v_ptr_eql_nil ty53 rfl rfl rfl | exact v_nil_eql_nil ty53 rfl rfl | exact v_ptrO_eql ty53 rfl rfl) rfl rfl ?_)
     refine g_step rfl (s_val (v_move rfl) rfl rfl ?_)
     refine g_split 54 rfl (fun hg54 => ?_) (fun hg54 => ?_)
     ·
      try simp only [NM] at hg54
      refine g_step_yes (j := 2) (t := 54) rfl rfl rfl rfl (s_val (v_move rfl) rfl rfl ?_)
      refine g_step_yes (j := 2) (t := 54) rfl rfl rfl rfl (s_val (v_eql rfl rfl) rfl rfl ?_)
      refine g_step rfl (s_val (v_pick_t rfl rfl) rfl rfl ?_)
      refine g_step rfl (s_val (v_move rfl) rfl rfl ?_)
      refine g_split 58 rfl (fun hg58 => ?_) (fun hg58 => ?_)
      ·
       try simp only [NM] at hg58
       refine g_step_yes (j := 6) (t := 58) rfl rfl rfl rfl (s_callp rfl rfl rfl (awake33_ok _) ?_)
       rintro _ rfl
       refine g_step rfl (s_val (v_pick_t rfl rfl) rfl rfl ?_)
       refine g_step rfl (s_val (v_assign rfl) rfl rfl ?_)
       refine g_nil ?_
       refine g_next hK12 ?_
       refine g_ret ?_
       refine g_then_ret ?_
       refine g_end1 (.inl rfl) Try.results8 (.tmp rfl) [] (ASub.refl _) (by first | exact AHeap.sub_refl _ | exact hsH) (fun p hp => by cases hp) ⟨rfl, ?_⟩
       rfl
      · exfalso; (try simp only [NM] at hg58); first | (simp at hg58; done) | exact hg58 rfl | (exfalso; simp_all; done)
     · exfalso; (try simp only [NM] at hg54); first | (simp at hg54; done) | exact hg54 rfl | (exfalso; simp_all; done)
    ·
     try simp only [NM] at hg38
     refine g_step_yes (j := 2) (t := 38) rfl rfl rfl rfl (s_val (v_move rfl) rfl rfl ?_)
     refine g_step_yes (j := 2) (t := 38) rfl rfl rfl rfl (s_val (v_gtr rfl rfl) rfl rfl ?_)
     refine g_step rfl (s_val (v_pick_f rfl rfl) rfl rfl ?_)
     refine g_step rfl (s_val (v_move rfl) rfl rfl ?_)
     refine g_split 42 rfl (fun hg42 => ?_) (fun hg42 => ?_)
     ·
      try simp only [NM] at hg42
      refine g_step_no (j := 6) (t := 42) rfl rfl rfl rfl rfl rfl rfl ?_
      refine g_step_no (j := 6) (t := 42) rfl rfl rfl rfl rfl rfl rfl ?_
      refine g_step_no (j := 6) (t := 42) rfl rfl rfl rfl rfl rfl rfl ?_
      refine g_step_no (j := 6) (t := 42) rfl rfl rfl rfl rfl rfl rfl ?_
      refine g_step_no (j := 6) (t := 42) rfl rfl rfl rfl rfl rfl rfl ?_
      refine g_step_no (j := 6) (t := 42) rfl rfl rfl rfl rfl rfl rfl ?_
      refine g_step_no (j := 6) (t := 42) rfl rfl rfl rfl rfl rfl rfl ?_
      refine g_step_no (j := 6) (t := 42) rfl rfl rfl rfl rfl rfl rfl ?_
      refine g_step rfl (s_val (v_pick_t rfl rfl) rfl rfl ?_)
      refine g_nil ?_
      refine g_next hK11 ?_
      first | refine g_keep [1, 2, 7, 8, 51] [3] [3] (keep_cons rfl (keep_cons rfl (keep_cons rfl (keep_cons rfl (keep_cons rfl keep_nil))))) (lkeep_cons rfl lkeep_nil) (keep_cons rfl keep_nil) rfl ?_ | refine g_keep [1, 2, 7, 8, 51] [3] [3] rfl rfl rfl rfl ?_
      refine g_cond rfl (fun _ => ?_) (fun h => by cases h)
      refine g_seq (fun K13 hK13 => ?_)
      refine g_region ?_
      refine g_step rfl (s_val (v_move rfl) rfl rfl ?_)
      refine g_step rfl (s_val (by first | exact v_ptr_eql_nil ty53 rfl rfl rfl | exact v_nil_eql_nil ty53 rfl rfl | exact v_ptrO_eql ty53 rfl rfl) rfl rfl ?_)
      refine g_step rfl (s_val (v_move rfl) rfl rfl ?_)
      refine g_split 54 rfl (fun hg54 => ?_) (fun hg54 => ?_)
      ·
       try simp only [NM] at hg54
       refine g_step_yes (j := 2) (t := 54) rfl rfl rfl rfl (s_val (v_move rfl) rfl rfl ?_)
       refine g_step_yes (j := 2) (t := 54) rfl rfl rfl rfl (s_val (v_eql rfl rfl) rfl rfl ?_)
       refine g_step rfl (s_val (v_pick_t rfl rfl) rfl rfl ?_)
       refine g_step rfl (s_val (v_move rfl) rfl rfl ?_)
       refine g_split 58 rfl (fun hg58 => ?_) (fun hg58 => ?_)
       ·
        try simp only [NM] at hg58
        refine g_step_yes (j := 6) (t := 58) rfl rfl rfl rfl (s_callp rfl rfl rfl (awake33_ok _) ?_)
        rintro _ rfl
        refine g_step rfl (s_val (v_pick_t rfl rfl) rfl rfl ?_)
        refine g_step rfl (s_val (v_assign rfl) rfl rfl ?_)
        refine g_nil ?_
        refine g_next hK13 ?_
        refine g_ret ?_
        refine g_then_ret ?_
        refine g_end1 (.inl rfl) Try.results8 (.tmp rfl) [] (ASub.refl _) (by first | exact AHeap.sub_refl _ | exact hsH) (fun p hp => by cases hp) ⟨rfl, ?_⟩
        rfl
       · exfalso; (try simp only [NM] at hg58); first | (simp at hg58; done) | exact hg58 rfl | (exfalso; simp_all; done)
      · exfalso; (try simp only [NM] at hg54); first | (simp at hg54; done) | exact hg54 rfl | (exfalso; simp_all; done)
     ·
      try simp only [NM] at hg42
      refine g_step_yes (j := 6) (t := 42) rfl rfl rfl rfl (s_fieldAddr ty24 fo24_1 ty3 rfl rfl ?_)
      refine g_step_yes (j := 6) (t := 42) rfl rfl rfl rfl (s_val (v_loadl ty3 rfl rfl rfl rfl) rfl rfl ?_)
      refine g_step_yes (j := 6) (t := 42) rfl rfl rfl rfl (s_fieldAddr ty24 fo24_0 ty3 rfl rfl ?_)
      refine g_step_yes (j := 6) (t := 42) rfl rfl rfl rfl (s_val (v_loadl ty3 rfl rfl rfl rfl) rfl rfl ?_)
      refine g_step_yes (j := 6) (t := 42) rfl rfl rfl rfl (s_val (v_sub_ rfl rfl (by omega)) rfl rfl ?_)
      refine g_step_yes (j := 6) (t := 42) rfl rfl rfl rfl (s_val (v_add rfl rfl (by omega)) rfl rfl ?_)
      refine g_step_yes (j := 6) (t := 42) rfl rfl rfl rfl (s_val (v_move rfl) rfl rfl ?_)
      refine g_step_yes (j := 6) (t := 42) rfl rfl rfl rfl (s_val (v_gtr rfl rfl) rfl rfl ?_)
      refine g_step rfl (s_val (v_pick_f rfl rfl) rfl rfl ?_)
      refine g_nil ?_
      refine g_next hK11 ?_
      first | refine g_keep [1, 2, 7, 8, 51] [3] [3] (keep_cons rfl (keep_cons rfl (keep_cons rfl (keep_cons rfl (keep_cons rfl keep_nil))))) (lkeep_cons rfl lkeep_nil) (keep_cons rfl keep_nil) rfl ?_ | refine g_keep [1, 2, 7, 8, 51] [3] [3] rfl rfl rfl rfl ?_
      refine g_cond rfl (fun hc51 => ?_) (fun hc51 => ?_)
      ·
       try simp only [NM] at hc51
       refine g_seq (fun K14 hK14 => ?_)
       refine g_region ?_
       refine g_step rfl (s_val (v_move rfl) rfl rfl ?_)
       refine g_step rfl (s_val (by first | exact v_ptr_eql_nil ty53 rfl rfl rfl | exact v_nil_eql_nil ty53 rfl rfl | exact v_ptrO_eql ty53 rfl rfl) rfl rfl ?_)
       refine g_step rfl (s_val (v_move rfl) rfl rfl ?_)
       refine g_split 54 rfl (fun hg54 => ?_) (fun hg54 => ?_)
       ·
        try simp only [NM] at hg54
        refine g_step_yes (j := 2) (t := 54) rfl rfl rfl rfl (s_val (v_move rfl) rfl rfl ?_)
        refine g_step_yes (j := 2) (t := 54) rfl rfl rfl rfl (s_val (v_eql rfl rfl) rfl rfl ?_)
        refine g_step rfl (s_val (v_pick_t rfl rfl) rfl rfl ?_)
        refine g_step rfl (s_val (v_move rfl) rfl rfl ?_)
        refine g_split 58 rfl (fun hg58 => ?_) (fun hg58 => ?_)
        ·
         try simp only [NM] at hg58
         refine g_step_yes (j := 6) (t := 58) rfl rfl rfl rfl (s_callp rfl rfl rfl (awake33_ok _) ?_)
         rintro _ rfl
         refine g_step rfl (s_val (v_pick_t rfl rfl) rfl rfl ?_)
         refine g_step rfl (s_val (v_assign rfl) rfl rfl ?_)
         refine g_nil ?_
         refine g_next hK14 ?_
         refine g_ret ?_
         refine g_then_ret ?_
         refine g_end1 (.inl rfl) Try.results8 (.tmp rfl) [] (ASub.refl _) (by first | exact AHeap.sub_refl _ | exact hsH) (fun p hp => by cases hp) ⟨rfl, ?_⟩
         rfl
        · exfalso; (try simp only [NM] at hg58); first | (simp at hg58; done) | exact hg58 rfl | (exfalso; simp_all; done)
       · exfalso; (try simp only [NM] at hg54); first | (simp at hg54; done) | exact hg54 rfl | (exfalso; simp_all; done)
      · exfalso; (try simp only [NM] at hc51); omega
  ·
   refine g_step rfl (s_val (by first | exact v_loadl_all ty24 rfl rfl rfl rfl rfl | exact v_loadl_part (cs := [_, _]) ty24 rfl rfl rfl rfl rfl rfl) rfl rfl ?_)
   refine g_step rfl (s_val (v_move rfl) rfl rfl ?_)
   refine g_step rfl (s_call rfl rfl rfl (cnew_ok t wd _ hv h1 h3 hb) (fun _ h => h.elim) ?_)
   rintro n0 _ effs0 hn0 hdom0 ⟨p, hp0, rfl, rfl⟩ hok0
   have hwp : w0.heap.size ≤ p := Nat.le_trans hn0 hp0
   generalize hG0 : setAll H _ = G0
   have hp : G0 p = some (.box (encCo (⟨t, wd, none, none, none, 0⟩ : Co))) := by rw [← hG0]; exact AHeap.get_set _ _ _
   have hsH : H.sub G0 := by rw [← hG0]; exact AHeap.sub_set (AHeap.sub_refl _) (hw0 p hwp)
   refine g_step rfl (s_val (v_move rfl) rfl rfl ?_)
   refine g_step rfl (s_val (v_extract rfl rfl) rfl rfl ?_)
   refine g_step rfl (s_val (v_extract rfl rfl) rfl rfl ?_)
   refine g_step rfl (s_val (v_assign rfl) rfl rfl ?_)
   refine g_step rfl (s_val (v_assign rfl) rfl rfl ?_)
   refine g_nil ?_
   refine g_next hK4 ?_
   refine g_seq (fun K15 hK15 => ?_)
   refine g_seq (fun K16 hK16 => ?_)
   refine g_region ?_
   refine g_step rfl (s_val (by first | exact v_loadl_all ty24 rfl rfl rfl rfl rfl | exact v_loadl_part (cs := [_, _]) ty24 rfl rfl rfl rfl rfl rfl) rfl rfl ?_)
   refine g_step rfl (s_callp rfl rfl rfl (spValid_ok t _) ?_)
   rintro _ rfl
   refine g_step rfl (s_val (v_not rfl) rfl rfl ?_)
   refine g_nil ?_
   refine g_next hK16 ?_
   refine g_cond rfl (fun hc26 => ?_) (fun hc26 => ?_)
   · exfalso; (try simp only [NM] at hc26); simp_all
   ·
    try simp only [NM] at hc26
    refine g_skip ?_
    refine g_next hK15 ?_
    refine g_seq (fun K17 hK17 => ?_)
    refine g_seq (fun K18 hK18 => ?_)
    refine g_region ?_
    have hv2 := spValid_is hv
    refine g_step rfl (s_val (v_move rfl) rfl rfl ?_)
    refine g_step rfl (s_val (v_lss rfl rfl) rfl rfl ?_)
    refine g_step rfl (s_val (v_move rfl) rfl rfl ?_)
    refine g_split 38 rfl (fun hg38 => ?_) (fun hg38 => ?_)
    · exfalso; (try simp only [NM] at hg38); omega
    ·
     try simp only [NM] at hg38
     refine g_step_yes (j := 2) (t := 38) rfl rfl rfl rfl (s_val (v_move rfl) rfl rfl ?_)
     refine g_step_yes (j := 2) (t := 38) rfl rfl rfl rfl (s_val (v_gtr rfl rfl) rfl rfl ?_)
     refine g_step rfl (s_val (v_pick_f rfl rfl) rfl rfl ?_)
     refine g_step rfl (s_val (v_move rfl) rfl rfl ?_)
     refine g_split 42 rfl (fun hg42 => ?_) (fun hg42 => ?_)
     · exfalso; (try simp only [NM] at hg42); omega
     ·
      try simp only [NM] at hg42
      refine g_step_yes (j := 6) (t := 42) rfl rfl rfl rfl (s_fieldAddr ty24 fo24_1 ty3 rfl rfl ?_)
      refine g_step_yes (j := 6) (t := 42) rfl rfl rfl rfl (s_val (v_loadl ty3 rfl rfl rfl rfl) rfl rfl ?_)
      refine g_step_yes (j := 6) (t := 42) rfl rfl rfl rfl (s_fieldAddr ty24 fo24_0 ty3 rfl rfl ?_)
      refine g_step_yes (j := 6) (t := 42) rfl rfl rfl rfl (s_val (v_loadl ty3 rfl rfl rfl rfl) rfl rfl ?_)
      refine g_step_yes (j := 6) (t := 42) rfl rfl rfl rfl (s_val (v_sub_ rfl rfl (by omega)) rfl rfl ?_)
      refine g_step_yes (j := 6) (t := 42) rfl rfl rfl rfl (s_val (v_add rfl rfl (by omega)) rfl rfl ?_)
      refine g_step_yes (j := 6) (t := 42) rfl rfl rfl rfl (s_val (v_move rfl) rfl rfl ?_)
      refine g_step_yes (j := 6) (t := 42) rfl rfl rfl rfl (s_val (v_gtr rfl rfl) rfl rfl ?_)
      refine g_step rfl (s_val (v_pick_f rfl rfl) rfl rfl ?_)
      refine g_nil ?_
      refine g_next hK18 ?_
      first | refine g_keep [1, 2, 7, 8, 51] [3] [3] (keep_cons rfl (keep_cons rfl (keep_cons rfl (keep_cons rfl (keep_cons rfl keep_nil))))) (lkeep_cons rfl lkeep_nil) (keep_cons rfl keep_nil) rfl ?_ | refine g_keep [1, 2, 7, 8, 51] [3] [3] rfl rfl rfl rfl ?_
      refine g_cond rfl (fun hc51 => ?_) (fun hc51 => ?_)
      · exfalso; (try simp only [NM] at hc51); omega
      ·
       try simp only [NM] at hc51
       refine g_skip ?_
       refine g_next hK17 ?_
       refine g_seq (fun K19 hK19 => ?_)
       refine g_seq (fun K20 hK20 => ?_)
       refine g_region ?_
       refine g_step rfl (s_val (v_move rfl) rfl rfl ?_)
       refine g_step rfl (s_val (v_neq rfl rfl) rfl rfl ?_)
       refine g_step rfl (s_val (v_move rfl) rfl rfl ?_)
       refine g_split 63 rfl (fun hg63 => ?_) (fun hg63 => ?_)
       · exfalso; (try simp only [NM] at hg63); first | (simp at hg63; done) | exact hg63 rfl | (exfalso; simp_all; done)
       ·
        try simp only [NM] at hg63
        refine g_step_yes (j := 2) (t := 63) rfl rfl rfl rfl (s_val (v_move rfl) rfl rfl ?_)
        refine g_step_yes (j := 2) (t := 63) rfl rfl rfl rfl (s_val (by first | exact v_ptr_eql_nil ty53 rfl rfl rfl | exact v_nil_eql_nil ty53 rfl rfl | exact v_ptrO_eql ty53 rfl rfl) rfl rfl ?_)
        refine g_step rfl (s_val (v_pick_f rfl rfl) rfl rfl ?_)
        refine g_step rfl (s_val (v_move rfl) rfl rfl ?_)
        refine g_split 67 rfl (fun hg67 => ?_) (fun hg67 => ?_)
        · exfalso; (try simp only [NM] at hg67); first | (simp at hg67; done) | exact hg67 rfl | (exfalso; simp_all; done)
        ·
         try simp only [NM] at hg67
         refine g_step_yes (j := 6) (t := 67) rfl rfl rfl rfl (s_val (v_move rfl) rfl rfl ?_)
         refine g_step_yes (j := 6) (t := 67) rfl rfl rfl rfl (s_callp rfl rfl rfl (cLevel_ok p (⟨t, wd, none, none, none, 0⟩ : Co) _ hp) ?_)
         rintro _ rfl
         rw [show Co.level (⟨t, wd, none, none, none, 0⟩ : Co) = 0 from rfl]
         refine g_step_yes (j := 6) (t := 67) rfl rfl rfl rfl (s_val (v_neq rfl rfl) rfl rfl ?_)
         refine g_step rfl (s_val (v_pick_f rfl rfl) rfl rfl ?_)
         refine g_step rfl (s_val (v_move rfl) rfl rfl ?_)
         refine g_split 72 rfl (fun hg72 => ?_) (fun hg72 => ?_)
         · exfalso; (try simp only [NM] at hg72); first | (simp at hg72; done) | exact hg72 rfl | (exfalso; simp_all; done)
         ·
          try simp only [NM] at hg72
          refine g_step_yes (j := 11) (t := 72) rfl rfl rfl rfl (s_val (v_move rfl) rfl rfl ?_)
          refine g_step_yes (j := 11) (t := 72) rfl rfl rfl rfl (s_callp rfl rfl rfl (cAsked_ok p (⟨t, wd, none, none, none, 0⟩ : Co) _ hp) ?_)
          rintro _ rfl
          refine g_step_yes (j := 11) (t := 72) rfl rfl rfl rfl (s_val (v_neq rfl rfl) rfl rfl ?_)
          refine g_step rfl (s_val (v_pick_f rfl rfl) rfl rfl ?_)
          refine g_nil ?_
          refine g_next hK20 ?_
          refine g_cond rfl (fun hc76 => ?_) (fun hc76 => ?_)
          · exfalso; (try simp only [NM] at hc76); first | (simp at hc76; done) | exact hc76 rfl | (exfalso; simp_all; done)
          ·
           try simp only [NM] at hc76
           refine g_skip ?_
           refine g_next hK19 ?_
           refine g_seq (fun K21 hK21 => ?_)
           refine g_region ?_
           refine g_step rfl (s_val (v_move rfl) rfl rfl ?_)
           refine g_step rfl (s_val (by first | exact v_loadl_all ty24 rfl rfl rfl rfl rfl | exact v_loadl_part (cs := [_, _]) ty24 rfl rfl rfl rfl rfl rfl) rfl rfl ?_)
           refine g_step rfl (s_val (v_move rfl) rfl rfl ?_)
           refine g_step rfl (s_callp rfl rfl rfl (plan_ok l t wd _ (by omega) hs) ?_)
           rintro _ rfl
           rw [show (if mayE l t wd = 0 then planL l t wd else []) = nextL (⟨t, wd, none, none, none, 0⟩ : Co) l from rfl]
           refine g_step rfl (s_val (v_move rfl) rfl rfl ?_)
           refine g_step rfl (s_val (v_extract rfl rfl) rfl rfl ?_)
           refine g_step rfl (s_val (v_extract rfl rfl) rfl rfl ?_)
           refine g_step rfl (s_val (v_assign rfl) rfl rfl ?_)
           refine g_step rfl (s_val (v_assign rfl) rfl rfl ?_)
           refine g_nil ?_
           refine g_next hK21 ?_
           first | refine g_keep [2, 7, 9, 10] [] [] (keep_cons rfl (keep_cons rfl (keep_cons rfl (keep_cons rfl keep_nil)))) lkeep_nil keep_nil rfl ?_ | refine g_keep [2, 7, 9, 10] [] [] rfl rfl rfl rfl ?_
           refine g_seq (fun K22 hK22 => ?_)
           refine g_region ?_
           rcases hx : nextL (⟨t, wd, none, none, none, 0⟩ : Co) l with _ | ⟨q, r⟩
           ·
            refine g_step rfl (s_val (v_move rfl) rfl rfl ?_)
            refine g_step rfl (s_val (v_move rfl) rfl rfl ?_)
            refine g_step rfl (s_callp rfl rfl rfl (cNext_ok p (⟨t, wd, none, none, none, 0⟩ : Co) l _ hp (by omega) hs) ?_)
            rintro _ rfl
            rw [hx]
            refine g_step rfl (s_val (v_move rfl) rfl rfl ?_)
            refine g_step rfl (s_val (v_extract rfl rfl) rfl rfl ?_)
            refine g_step rfl (s_val (v_extract rfl rfl) rfl rfl ?_)
            refine g_step rfl (s_val (v_extract rfl rfl) rfl rfl ?_)
            refine g_step rfl (s_alloc (av := (.agg [(.int .i64 0), (.int .i64 0), (.int .i64 0)])) ty42 rfl rfl rfl rfl ?_)
            refine g_step rfl (s_store_all ty42 rfl rfl rfl rfl rfl rfl ?_)
            refine g_step rfl (s_val (v_assign rfl) rfl rfl ?_)
            refine g_step rfl (s_val (v_assign rfl) rfl rfl ?_)
            refine g_nil ?_
            refine g_next hK22 ?_
            refine g_seq (fun K23 hK23 => ?_)
            refine g_seq (fun K24 hK24 => ?_)
            refine g_region ?_
            refine g_step rfl (s_val (v_move rfl) rfl rfl ?_)
            refine g_step rfl (s_val (v_move rfl) rfl rfl ?_)
            refine g_step rfl (s_val (v_neq rfl rfl) rfl rfl ?_)
            refine g_step rfl (s_val (v_move rfl) rfl rfl ?_)
            refine g_split 94 rfl (fun hg94 => ?_) (fun hg94 => ?_)
            · exfalso; (try simp only [NM] at hg94); first | (simp at hg94; done) | exact hg94 rfl | (exfalso; simp_all; done)
            ·
             try simp only [NM] at hg94
             refine g_step_yes (j := 3) (t := 94) rfl rfl rfl rfl (s_val (v_move rfl) rfl rfl ?_)
             refine g_step_yes (j := 3) (t := 94) rfl rfl rfl rfl (s_val (v_move rfl) rfl rfl ?_)
             refine g_step_yes (j := 3) (t := 94) rfl rfl rfl rfl (s_val (v_eql rfl rfl) rfl rfl ?_)
             refine g_step_yes (j := 3) (t := 94) rfl rfl rfl rfl (s_val (v_move rfl) rfl rfl ?_)
             refine g_split 98 rfl (fun hg98 => ?_) (fun hg98 => ?_)
             ·
              try simp only [NM] at hg98
              refine g_step_yes (j := 7) (t := 98) rfl rfl rfl rfl (s_val (v_move rfl) rfl rfl ?_)
              refine g_step_yes (j := 7) (t := 98) rfl rfl rfl rfl (s_val (v_len ty35 rfl (by first | rfl | assumption) (by first | exact List.length_map .. | rfl)) rfl rfl ?_)
              refine g_step_yes (j := 7) (t := 98) rfl rfl rfl rfl (s_val (v_gtr rfl rfl) rfl rfl ?_)
              refine g_step_yes (j := 3) (t := 94) rfl rfl rfl rfl (s_val (v_pick_t rfl rfl) rfl rfl ?_)
              refine g_step_yes (j := 3) (t := 94) rfl rfl rfl rfl (s_val (v_bool_neq ty4 rfl rfl) rfl rfl ?_)
              refine g_step rfl (s_val (v_pick_f rfl rfl) rfl rfl ?_)
              refine g_nil ?_
              refine g_next hK24 ?_
              first | refine g_keep [9, 12, 104] [11] [11] (keep_cons rfl (keep_cons rfl (keep_cons rfl keep_nil))) (lkeep_cons rfl lkeep_nil) (keep_cons rfl keep_nil) rfl ?_ | refine g_keep [9, 12, 104] [11] [11] rfl rfl rfl rfl ?_
              refine g_cond rfl (fun hc104 => ?_) (fun hc104 => ?_)
              · exfalso; (try simp only [NM] at hc104); first | (simp at hc104; done) | exact hc104 rfl | (exfalso; simp_all; done)
              ·
               try simp only [NM] at hc104
               refine g_skip ?_
               refine g_next hK23 ?_
               refine g_seq (fun K25 hK25 => ?_)
               refine g_seq (fun K26 hK26 => ?_)
               refine g_region ?_
               refine g_step rfl (s_val (v_move rfl) rfl rfl ?_)
               refine g_step rfl (s_val (v_not rfl) rfl rfl ?_)
               refine g_nil ?_
               refine g_next hK26 ?_
               refine g_cond rfl (fun hc106 => ?_) (fun hc106 => ?_)
               ·
                try simp only [NM] at hc106
                refine g_seq (fun K27 hK27 => ?_)
                refine g_region ?_
                refine g_step rfl (s_fieldAddr ty42 fo42_0 ty3 rfl rfl ?_)
                refine g_step rfl (s_val (v_loadl ty3 rfl rfl rfl rfl) rfl rfl ?_)
                refine g_step rfl (s_val (v_eql rfl rfl) rfl rfl ?_)
                refine g_step rfl (s_val (v_move rfl) rfl rfl ?_)
                refine g_split 110 rfl (fun hg110 => ?_) (fun hg110 => ?_)
                ·
                 try simp only [NM] at hg110
                 refine g_step_yes (j := 3) (t := 110) rfl rfl rfl rfl (s_fieldAddr ty42 fo42_1 ty24 rfl rfl ?_)
                 refine g_step_yes (j := 3) (t := 110) rfl rfl rfl rfl (s_fieldAddr ty24 fo24_0 ty3 rfl rfl ?_)
                 refine g_step_yes (j := 3) (t := 110) rfl rfl rfl rfl (s_val (v_loadl ty3 rfl rfl rfl rfl) rfl rfl ?_)
                 refine g_step_yes (j := 3) (t := 110) rfl rfl rfl rfl (s_val (v_eql rfl rfl) rfl rfl ?_)
                 refine g_step rfl (s_val (v_pick_t rfl rfl) rfl rfl ?_)
                 refine g_step rfl (s_val (v_move rfl) rfl rfl ?_)
                 refine g_split 116 rfl (fun hg116 => ?_) (fun hg116 => ?_)
                 ·
                  try simp only [NM] at hg116
                  refine g_step_yes (j := 9) (t := 116) rfl rfl rfl rfl (s_fieldAddr ty42 fo42_1 ty24 rfl rfl ?_)
                  refine g_step_yes (j := 9) (t := 116) rfl rfl rfl rfl (s_fieldAddr ty24 fo24_1 ty3 rfl rfl ?_)
                  refine g_step_yes (j := 9) (t := 116) rfl rfl rfl rfl (s_val (v_loadl ty3 rfl rfl rfl rfl) rfl rfl ?_)
                  refine g_step_yes (j := 9) (t := 116) rfl rfl rfl rfl (s_val (v_eql rfl rfl) rfl rfl ?_)
                  refine g_step rfl (s_val (v_pick_t rfl rfl) rfl rfl ?_)
                  refine g_step rfl (s_val (v_move rfl) rfl rfl ?_)
                  refine g_split 122 rfl (fun hg122 => ?_) (fun hg122 => ?_)
                  ·
                   try simp only [NM] at hg122
                   refine g_step_yes (j := 15) (t := 122) rfl rfl rfl rfl (s_callp rfl rfl rfl (awake33_ok _) ?_)
                   rintro _ rfl
                   refine g_step rfl (s_val (v_pick_t rfl rfl) rfl rfl ?_)
                   refine g_step rfl (s_val (v_assign rfl) rfl rfl ?_)
                   refine g_nil ?_
                   refine g_next hK27 ?_
                   refine g_ret ?_
                   refine g_then_ret ?_
                   refine g_end1 (.inl rfl) Try.results8 (.tmp rfl) [] (ASub.refl _) (by first | exact AHeap.sub_refl _ | exact hsH) (fun p hp => by cases hp) ⟨rfl, ?_⟩
                   rfl
                  · exfalso; (try simp only [NM] at hg122); first | (simp at hg122; done) | exact hg122 rfl | (exfalso; simp_all; done)
                 · exfalso; (try simp only [NM] at hg116); first | (simp at hg116; done) | exact hg116 rfl | (exfalso; simp_all; done)
                · exfalso; (try simp only [NM] at hg110); first | (simp at hg110; done) | exact hg110 rfl | (exfalso; simp_all; done)
               · exfalso; (try simp only [NM] at hc106); first | (simp at hc106; done) | exact hc106 rfl | (exfalso; simp_all; done)
             ·
              try simp only [NM] at hg98
              refine g_step_no (j := 7) (t := 98) rfl rfl rfl rfl rfl rfl rfl ?_
              refine g_step_no (j := 7) (t := 98) rfl rfl rfl rfl rfl rfl rfl ?_
              refine g_step_no (j := 7) (t := 98) rfl rfl rfl rfl rfl rfl rfl ?_
              refine g_step_yes (j := 3) (t := 94) rfl rfl rfl rfl (s_val (v_pick_f rfl rfl) rfl rfl ?_)
              refine g_step_yes (j := 3) (t := 94) rfl rfl rfl rfl (s_val (v_bool_neq ty4 rfl rfl) rfl rfl ?_)
              refine g_step rfl (s_val (v_pick_f rfl rfl) rfl rfl ?_)
              refine g_nil ?_
              refine g_next hK24 ?_
              first | refine g_keep [9, 12, 104] [11] [11] (keep_cons rfl (keep_cons rfl (keep_cons rfl keep_nil))) (lkeep_cons rfl lkeep_nil) (keep_cons rfl keep_nil) rfl ?_ | refine g_keep [9, 12, 104] [11] [11] rfl rfl rfl rfl ?_
              refine g_cond rfl (fun hc104 => ?_) (fun hc104 => ?_)
              · exfalso; (try simp only [NM] at hc104); first | (simp at hc104; done) | exact hc104 rfl | (exfalso; simp_all; done)
              ·
               try simp only [NM] at hc104
               refine g_skip ?_
               refine g_next hK23 ?_
               refine g_seq (fun K28 hK28 => ?_)
               refine g_seq (fun K29 hK29 => ?_)
               refine g_region ?_
               refine g_step rfl (s_val (v_move rfl) rfl rfl ?_)
               refine g_step rfl (s_val (v_not rfl) rfl rfl ?_)
               refine g_nil ?_
               refine g_next hK29 ?_
               refine g_cond rfl (fun hc106 => ?_) (fun hc106 => ?_)
               ·
                try simp only [NM] at hc106
                refine g_seq (fun K30 hK30 => ?_)
                refine g_region ?_
                refine g_step rfl (s_fieldAddr ty42 fo42_0 ty3 rfl rfl ?_)
                refine g_step rfl (s_val (v_loadl ty3 rfl rfl rfl rfl) rfl rfl ?_)
                refine g_step rfl (s_val (v_eql rfl rfl) rfl rfl ?_)
                refine g_step rfl (s_val (v_move rfl) rfl rfl ?_)
                refine g_split 110 rfl (fun hg110 => ?_) (fun hg110 => ?_)
                ·
                 try simp only [NM] at hg110
                 refine g_step_yes (j := 3) (t := 110) rfl rfl rfl rfl (s_fieldAddr ty42 fo42_1 ty24 rfl rfl ?_)
                 refine g_step_yes (j := 3) (t := 110) rfl rfl rfl rfl (s_fieldAddr ty24 fo24_0 ty3 rfl rfl ?_)
                 refine g_step_yes (j := 3) (t := 110) rfl rfl rfl rfl (s_val (v_loadl ty3 rfl rfl rfl rfl) rfl rfl ?_)
                 refine g_step_yes (j := 3) (t := 110) rfl rfl rfl rfl (s_val (v_eql rfl rfl) rfl rfl ?_)
                 refine g_step rfl (s_val (v_pick_t rfl rfl) rfl rfl ?_)
                 refine g_step rfl (s_val (v_move rfl) rfl rfl ?_)
                 refine g_split 116 rfl (fun hg116 => ?_) (fun hg116 => ?_)
                 ·
                  try simp only [NM] at hg116
                  refine g_step_yes (j := 9) (t := 116) rfl rfl rfl rfl (s_fieldAddr ty42 fo42_1 ty24 rfl rfl ?_)
                  refine g_step_yes (j := 9) (t := 116) rfl rfl rfl rfl (s_fieldAddr ty24 fo24_1 ty3 rfl rfl ?_)
                  refine g_step_yes (j := 9) (t := 116) rfl rfl rfl rfl (s_val (v_loadl ty3 rfl rfl rfl rfl) rfl rfl ?_)
                  refine g_step_yes (j := 9) (t := 116) rfl rfl rfl rfl (s_val (v_eql rfl rfl) rfl rfl ?_)
                  refine g_step rfl (s_val (v_pick_t rfl rfl) rfl rfl ?_)
                  refine g_step rfl (s_val (v_move rfl) rfl rfl ?_)
                  refine g_split 122 rfl (fun hg122 => ?_) (fun hg122 => ?_)
                  ·
                   try simp only [NM] at hg122
                   refine g_step_yes (j := 15) (t := 122) rfl rfl rfl rfl (s_callp rfl rfl rfl (awake33_ok _) ?_)
                   rintro _ rfl
                   refine g_step rfl (s_val (v_pick_t rfl rfl) rfl rfl ?_)
                   refine g_step rfl (s_val (v_assign rfl) rfl rfl ?_)
                   refine g_nil ?_
                   refine g_next hK30 ?_
                   refine g_ret ?_
                   refine g_then_ret ?_
                   refine g_end1 (.inl rfl) Try.results8 (.tmp rfl) [] (ASub.refl _) (by first | exact AHeap.sub_refl _ | exact hsH) (fun p hp => by cases hp) ⟨rfl, ?_⟩
                   rfl
                  · exfalso; (try simp only [NM] at hg122); first | (simp at hg122; done) | exact hg122 rfl | (exfalso; simp_all; done)
                 · exfalso; (try simp only [NM] at hg116); first | (simp at hg116; done) | exact hg116 rfl | (exfalso; simp_all; done)
                · exfalso; (try simp only [NM] at hg110); first | (simp at hg110; done) | exact hg110 rfl | (exfalso; simp_all; done)
               · exfalso; (try simp only [NM] at hc106); first | (simp at hc106; done) | exact hc106 rfl | (exfalso; simp_all; done)
           ·
            refine g_step rfl (s_val (v_move rfl) rfl rfl ?_)
            refine g_step rfl (s_val (v_move rfl) rfl rfl ?_)
            refine g_step rfl (s_callp rfl rfl rfl (cNext_ok p (⟨t, wd, none, none, none, 0⟩ : Co) l _ hp (by omega) hs) ?_)
            rintro _ rfl
            rw [hx]
            refine g_step rfl (s_val (v_move rfl) rfl rfl ?_)
            refine g_step rfl (s_val (v_extract rfl rfl) rfl rfl ?_)
            refine g_step rfl (s_val (v_extract rfl rfl) rfl rfl ?_)
            refine g_step rfl (s_val (v_extract rfl rfl) rfl rfl ?_)
            refine g_step rfl (s_alloc (av := (.agg [(.int .i64 0), (.int .i64 0), (.int .i64 0)])) ty42 rfl rfl rfl rfl ?_)
            refine g_step rfl (s_store_all ty42 rfl rfl rfl rfl rfl rfl ?_)
            refine g_step rfl (s_val (v_assign rfl) rfl rfl ?_)
            refine g_step rfl (s_val (v_assign rfl) rfl rfl ?_)
            refine g_nil ?_
            refine g_next hK22 ?_
            refine g_seq (fun K31 hK31 => ?_)
            refine g_seq (fun K32 hK32 => ?_)
            refine g_region ?_
            have he0 : mayE l t wd = 0 := nextL_may hx
            refine g_step rfl (s_val (v_move rfl) rfl rfl ?_)
            refine g_step rfl (s_val (v_move rfl) rfl rfl ?_)
            refine g_step rfl (s_val (v_neq rfl rfl) rfl rfl ?_)
            refine g_step rfl (s_val (v_move rfl) rfl rfl ?_)
            refine g_split 94 rfl (fun hg94 => ?_) (fun hg94 => ?_)
            · exfalso; (try simp only [NM] at hg94); first | (simp at hg94; done) | exact hg94 rfl | (exfalso; simp_all; done)
            ·
             try simp only [NM] at hg94
             refine g_step_yes (j := 3) (t := 94) rfl rfl rfl rfl (s_val (v_move rfl) rfl rfl ?_)
             refine g_step_yes (j := 3) (t := 94) rfl rfl rfl rfl (s_val (v_move rfl) rfl rfl ?_)
             refine g_step_yes (j := 3) (t := 94) rfl rfl rfl rfl (s_val (v_eql rfl rfl) rfl rfl ?_)
             refine g_step_yes (j := 3) (t := 94) rfl rfl rfl rfl (s_val (v_move rfl) rfl rfl ?_)
             refine g_split 98 rfl (fun hg98 => ?_) (fun hg98 => ?_)
             ·
              try simp only [NM] at hg98
              refine g_step_yes (j := 7) (t := 98) rfl rfl rfl rfl (s_val (v_move rfl) rfl rfl ?_)
              refine g_step_yes (j := 7) (t := 98) rfl rfl rfl rfl (s_val (v_len ty35 rfl (by first | rfl | assumption) (by first | exact List.length_map .. | rfl)) rfl rfl ?_)
              refine g_step_yes (j := 7) (t := 98) rfl rfl rfl rfl (s_val (v_gtr rfl rfl) rfl rfl ?_)
              refine g_step_yes (j := 3) (t := 94) rfl rfl rfl rfl (s_val (v_pick_t rfl rfl) rfl rfl ?_)
              refine g_step_yes (j := 3) (t := 94) rfl rfl rfl rfl (s_val (v_bool_neq ty4 rfl rfl) rfl rfl ?_)
              refine g_step rfl (s_val (v_pick_f rfl rfl) rfl rfl ?_)
              refine g_nil ?_
              refine g_next hK32 ?_
              first | refine g_keep [9, 12, 104] [11] [11] (keep_cons rfl (keep_cons rfl (keep_cons rfl keep_nil))) (lkeep_cons rfl lkeep_nil) (keep_cons rfl keep_nil) rfl ?_ | refine g_keep [9, 12, 104] [11] [11] rfl rfl rfl rfl ?_
              refine g_cond rfl (fun hc104 => ?_) (fun hc104 => ?_)
              · exfalso; (try simp only [NM] at hc104); first | (simp at hc104; done) | exact hc104 rfl | (exfalso; simp_all; done)
              ·
               try simp only [NM] at hc104
               refine g_skip ?_
               refine g_next hK31 ?_
               refine g_seq (fun K33 hK33 => ?_)
               refine g_seq (fun K34 hK34 => ?_)
               refine g_region ?_
               refine g_step rfl (s_val (v_move rfl) rfl rfl ?_)
               refine g_step rfl (s_val (v_not rfl) rfl rfl ?_)
               refine g_nil ?_
               refine g_next hK34 ?_
               refine g_cond rfl (fun hc106 => ?_) (fun hc106 => ?_)
               · exfalso; (try simp only [NM] at hc106); first | (simp at hc106; done) | exact hc106 rfl | (exfalso; simp_all; done)
               ·
                try simp only [NM] at hc106
                refine g_skip ?_
                refine g_next hK33 ?_
                refine g_seq (fun K35 hK35 => ?_)
                refine g_draw (n := 33) (fun j => !([] : List Nat).contains j) rfl rfl ?_
                refine m_takel 0 rfl rfl (by kernel_rfl) (by kernel_rfl) (by kernel_rfl) (fun _ _ _ _ h => h) (vl_fieldAddr ty42 fo42_0 ty3 rfl) rfl rfl ?_
                refine m_tk 1 true rfl rfl (by kernel_rfl) (v_loadl ty3 rfl rfl rfl rfl) rfl rfl ?_
                refine m_tk 2 false rfl rfl (by kernel_rfl) (v_move rfl) rfl rfl ?_
                refine m_tk 3 false rfl rfl (by kernel_rfl) (v_indexAddr ty35 ty42 rfl rfl rfl rfl rfl rfl) rfl rfl ?_
                refine m_tk 4 false rfl rfl (by kernel_rfl) (by first | exact v_fieldAddr ty42 fo42_0 ty3 rfl | exact v_fieldAddr_box ty42 fo42_0 ty3 rfl) rfl rfl ?_
                refine m_tk 5 true rfl rfl (by kernel_rfl) (by first | exact v_load ty3 rfl rfl rfl rfl rfl | exact v_load_box ty3 rfl rfl (by assumption) rfl) rfl rfl ?_
                refine m_tk 6 false rfl rfl (by kernel_rfl) (v_eql rfl rfl) rfl rfl ?_
                refine m_tk 7 false rfl rfl (by kernel_rfl) (v_move rfl) rfl rfl ?_
                refine m_split 132 rfl (fun hg132 => ?_) (fun hg132 => ?_)
                ·
                 try simp only [NM] at hg132
                 refine m_takel_yes (j := 7) (t := 132) 8 rfl rfl rfl rfl rfl (by kernel_rfl) (by kernel_rfl) (by kernel_rfl) (fun _ _ _ _ h => h) (vl_fieldAddr ty42 fo42_1 ty24 rfl) rfl rfl ?_
                 refine m_takel_yes (j := 7) (t := 132) 9 rfl rfl rfl rfl rfl (by kernel_rfl) (by kernel_rfl) (by kernel_rfl) (fun _ _ _ _ h => h) (vl_fieldAddr ty24 fo24_0 ty3 rfl) rfl rfl ?_
                 refine m_take_yes (j := 7) (t := 132) 10 true rfl rfl rfl rfl rfl (by kernel_rfl) (by kernel_rfl) (by kernel_rfl) (fun _ _ _ _ h => h) (v_loadl ty3 rfl rfl rfl rfl) rfl rfl ?_
                 refine m_take_yes (j := 7) (t := 132) 11 false rfl rfl rfl rfl rfl (by kernel_rfl) (by kernel_rfl) (by kernel_rfl) (fun _ _ _ _ h => h) (v_move rfl) rfl rfl ?_
                 refine m_take_yes (j := 7) (t := 132) 12 false rfl rfl rfl rfl rfl (by kernel_rfl) (by kernel_rfl) (by kernel_rfl) (fun _ _ _ _ h => h) (v_indexAddr ty35 ty42 rfl rfl rfl rfl rfl rfl) rfl rfl ?_
                 refine m_take_yes (j := 7) (t := 132) 13 false rfl rfl rfl rfl rfl (by kernel_rfl) (by kernel_rfl) (by kernel_rfl) (fun _ _ _ _ h => h) (by first | exact v_fieldAddr ty42 fo42_1 ty24 rfl | exact v_fieldAddr_box ty42 fo42_1 ty24 rfl) rfl rfl ?_
                 refine m_take_yes (j := 7) (t := 132) 14 false rfl rfl rfl rfl rfl (by kernel_rfl) (by kernel_rfl) (by kernel_rfl) (fun _ _ _ _ h => h) (by first | exact v_fieldAddr ty24 fo24_0 ty3 rfl | exact v_fieldAddr_box ty24 fo24_0 ty3 rfl) rfl rfl ?_
                 refine m_take_yes (j := 7) (t := 132) 15 true rfl rfl rfl rfl rfl (by kernel_rfl) (by kernel_rfl) (by kernel_rfl) (fun _ _ _ _ h => h) (by first | exact v_load ty3 rfl rfl rfl rfl rfl | exact v_load_box ty3 rfl rfl (by assumption) rfl) rfl rfl ?_
                 refine m_take_yes (j := 7) (t := 132) 16 false rfl rfl rfl rfl rfl (by kernel_rfl) (by kernel_rfl) (by kernel_rfl) (fun _ _ _ _ h => h) (v_eql rfl rfl) rfl rfl ?_
                 refine m_tk 17 false rfl rfl (by kernel_rfl) (v_pick_t rfl rfl) rfl rfl ?_
                 refine m_tk 18 false rfl rfl (by kernel_rfl) (v_move rfl) rfl rfl ?_
                 refine m_split 143 rfl (fun hg143 => ?_) (fun hg143 => ?_)
                 ·
                  try simp only [NM] at hg143
                  refine m_takel_yes (j := 18) (t := 143) 19 rfl rfl rfl rfl rfl (by kernel_rfl) (by kernel_rfl) (by kernel_rfl) (fun _ _ _ _ h => h) (vl_fieldAddr ty42 fo42_1 ty24 rfl) rfl rfl ?_
                  refine m_takel_yes (j := 18) (t := 143) 20 rfl rfl rfl rfl rfl (by kernel_rfl) (by kernel_rfl) (by kernel_rfl) (fun _ _ _ _ h => h) (vl_fieldAddr ty24 fo24_1 ty3 rfl) rfl rfl ?_
                  refine m_take_yes (j := 18) (t := 143) 21 true rfl rfl rfl rfl rfl (by kernel_rfl) (by kernel_rfl) (by kernel_rfl) (fun _ _ _ _ h => h) (v_loadl ty3 rfl rfl rfl rfl) rfl rfl ?_
                  refine m_take_yes (j := 18) (t := 143) 22 false rfl rfl rfl rfl rfl (by kernel_rfl) (by kernel_rfl) (by kernel_rfl) (fun _ _ _ _ h => h) (v_move rfl) rfl rfl ?_
                  refine m_take_yes (j := 18) (t := 143) 23 false rfl rfl rfl rfl rfl (by kernel_rfl) (by kernel_rfl) (by kernel_rfl) (fun _ _ _ _ h => h) (v_indexAddr ty35 ty42 rfl rfl rfl rfl rfl rfl) rfl rfl ?_
                  refine m_take_yes (j := 18) (t := 143) 24 false rfl rfl rfl rfl rfl (by kernel_rfl) (by kernel_rfl) (by kernel_rfl) (fun _ _ _ _ h => h) (by first | exact v_fieldAddr ty42 fo42_1 ty24 rfl | exact v_fieldAddr_box ty42 fo42_1 ty24 rfl) rfl rfl ?_
                  refine m_take_yes (j := 18) (t := 143) 25 false rfl rfl rfl rfl rfl (by kernel_rfl) (by kernel_rfl) (by kernel_rfl) (fun _ _ _ _ h => h) (by first | exact v_fieldAddr ty24 fo24_1 ty3 rfl | exact v_fieldAddr_box ty24 fo24_1 ty3 rfl) rfl rfl ?_
                  refine m_take_yes (j := 18) (t := 143) 26 true rfl rfl rfl rfl rfl (by kernel_rfl) (by kernel_rfl) (by kernel_rfl) (fun _ _ _ _ h => h) (by first | exact v_load ty3 rfl rfl rfl rfl rfl | exact v_load_box ty3 rfl rfl (by assumption) rfl) rfl rfl ?_
                  refine m_take_yes (j := 18) (t := 143) 27 false rfl rfl rfl rfl rfl (by kernel_rfl) (by kernel_rfl) (by kernel_rfl) (fun _ _ _ _ h => h) (v_eql rfl rfl) rfl rfl ?_
                  refine m_tk 28 false rfl rfl (by kernel_rfl) (v_pick_t rfl rfl) rfl rfl ?_
                  refine m_tk 29 false rfl rfl (by kernel_rfl) (v_move rfl) rfl rfl ?_
                  refine m_split 154 rfl (fun hg154 => ?_) (fun hg154 => ?_)
                  ·
                   try simp only [NM] at hg154
                   refine m_one_yes (j := 29) (t := 154) 30 (by kernel_rfl) rfl rfl rfl rfl rfl ?_
                   refine sm_callp rfl rfl rfl (awake33_ok _) ?_
                   rintro _ rfl
                   refine m_tk 31 false rfl rfl (by kernel_rfl) (v_pick_t rfl rfl) rfl rfl ?_
                   refine m_tk 32 false rfl rfl (by kernel_rfl) (v_assign rfl) rfl rfl ?_
                   refine m_done (by kernel_rfl) ?_
                   refine g_next hK35 ?_
                   first | refine g_keep [6] [] [] (keep_cons rfl keep_nil) lkeep_nil keep_nil rfl ?_ | refine g_keep [6] [] [] rfl rfl rfl rfl ?_
                   refine g_ret ?_
                   refine g_end1 (.inl rfl) Try.results8 (.tmp rfl) [] (ASub.refl _) (by first | exact AHeap.sub_refl _ | exact hsH) (fun p hp => by cases hp) ⟨rfl, ?_⟩
                   rfl
                  · exfalso; (try simp only [NM] at hg154); first | (simp at hg154; done) | exact hg154 rfl | (exfalso; simp_all; done)
                 · exfalso; (try simp only [NM] at hg143); first | (simp at hg143; done) | exact hg143 rfl | (exfalso; simp_all; done)
                · exfalso; (try simp only [NM] at hg132); first | (simp at hg132; done) | exact hg132 rfl | (exfalso; simp_all; done)
             · exfalso; (try simp only [NM] at hg98); first | exact hg98 he0 | (simp [he0] at hg98; done)

end Go.Proofs.Ytgedefcjngofkaa

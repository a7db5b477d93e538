import Derived.Test.YtgedefcjngofkaaCoordB
import Derived.Test.YtgedefcjngofkaaPlanLaws
import Derived.Test.YtgedefcjngofkaaPCoord3
set_option maxHeartbeats 8000000
set_option linter.unusedSimpArgs false
set_option linter.unusedVariables false
set_option maxRecDepth 100000
namespace Go.Proofs.Ytgedefcjngofkaa
open Go Go.Proofs.Ytgedefcjngofkaa.AM
theorem coordLeads_ok (l : List Rc) (t : Sp) (wd : Int) (hh : ∀ r ∈ l, Held r.bag) (hl : l.length ≤ 140737488351232) (G : AHeap) : PCalls Try.prog 9 [encRs l, encSp t, .int .i64 wd] G (fun v => v = .bool true) := by
 refine LCalls.intro 105 fi9 rfl Try.ntmps9 rfl (fun _ h => h.elim) (fun H hH w0 hw0 => ?_)
 refine g_seq (fun K0 hK0 => ?_)
 refine g_region ?_
 refine g_step rfl (s_box rfl rfl rfl rfl ?_)
 refine g_step rfl (s_val (v_assign rfl) rfl rfl ?_)
 refine g_nil ?_
 refine g_next hK0 ?_
 refine g_seq (fun K1 hK1 => ?_)
 refine g_seq (fun K2 hK2 => ?_)
 refine g_region ?_
 refine g_step rfl (s_val (v_move rfl) rfl rfl ?_)
 refine g_step rfl (s_callp rfl rfl rfl (fewL_ok l _ _ rfl hh hl) ?_)
 rintro _ rfl
 refine g_step rfl (s_val (v_not rfl) rfl rfl ?_)
 refine g_nil ?_
 refine g_next hK2 ?_
 refine g_cond rfl (fun hc23 => ?_) (fun hc23 => ?_)
 ·
  try simp only [NM] at hc23
  refine g_seq (fun K3 hK3 => ?_)
  refine g_region ?_
  refine g_step rfl (s_callp rfl rfl rfl (awake33_ok _) ?_)
  rintro _ rfl
  refine g_step rfl (s_val (v_assign rfl) rfl rfl ?_)
  refine g_nil ?_
  refine g_next hK3 ?_
  refine g_ret ?_
  refine g_then_ret ?_
  refine g_end1 (.inl rfl) Try.results9 (.tmp rfl) [] (ASub.refl _) (by first | exact AHeap.sub_refl _ | exact hsH) (fun p hp => by cases hp) ⟨rfl, ?_⟩
  rfl
 ·
  try simp only [NM] at hc23
  obtain ⟨hl20, hs⟩ := fewL_small (l := l) (by simpa using hc23)
  refine g_skip ?_
  refine g_next hK1 ?_
  refine g_seq (fun K4 hK4 => ?_)
  refine g_region ?_
  refine g_step rfl (s_val (v_move rfl) rfl rfl ?_)
  refine g_step rfl (s_val (by first | exact v_loadl_all ty24 rfl rfl rfl rfl rfl | exact v_loadl_part (cs := [_, _]) ty24 rfl rfl rfl rfl rfl rfl) rfl rfl ?_)
  refine g_step rfl (s_val (v_move rfl) rfl rfl ?_)
  refine g_step rfl (s_callp rfl rfl rfl (plan_ok l t wd _ (by omega) hs) ?_)
  rintro _ rfl
  rw [show (if mayE l t wd = 0 then planL l t wd else []) = nextL (⟨t, wd, none, none, none, 0⟩ : Co) l from rfl]
  refine g_step rfl (s_val (v_move rfl) rfl rfl ?_)
  refine g_step rfl (s_val (v_extract rfl rfl) rfl rfl ?_)
  refine g_step rfl (s_val (v_extract rfl rfl) rfl rfl ?_)
  refine g_step rfl (s_val (v_assign rfl) rfl rfl ?_)
  refine g_step rfl (s_val (v_assign rfl) rfl rfl ?_)
  refine g_nil ?_
  refine g_next hK4 ?_
  refine g_seq (fun K5 hK5 => ?_)
  refine g_region ?_
  rcases cn_cases t wd with hv | ⟨hv, hb⟩ | ⟨hv, h1, h3, hb⟩
  ·
   refine g_step rfl (s_val (by first | exact v_loadl_all ty24 rfl rfl rfl rfl rfl | exact v_loadl_part (cs := [_, _]) ty24 rfl rfl rfl rfl rfl rfl) rfl rfl ?_)
   have hme : mayE l t wd ≠ 0 := fun h9 => by have := (may_zero h9).2.1; rw [hv] at this; cases this
   refine g_step rfl (s_val (v_move rfl) rfl rfl ?_)
   refine g_step rfl (s_callp rfl rfl rfl (cnew1_ok t wd _ hv) ?_)
   rintro _ rfl
   refine g_step rfl (s_val (v_move rfl) rfl rfl ?_)
   refine g_step rfl (s_val (v_extract rfl rfl) rfl rfl ?_)
   refine g_step rfl (s_val (v_extract rfl rfl) rfl rfl ?_)
   refine g_step rfl (s_val (v_assign rfl) rfl rfl ?_)
   refine g_step rfl (s_val (v_assign rfl) rfl rfl ?_)
   refine g_nil ?_
   refine g_next hK5 ?_
   refine g_seq (fun K6 hK6 => ?_)
   refine g_seq (fun K7 hK7 => ?_)
   refine g_region ?_
   refine g_step rfl (s_val (v_move rfl) rfl rfl ?_)
   refine g_step rfl (s_val (v_neq rfl rfl) rfl rfl ?_)
   refine g_nil ?_
   refine g_next hK7 ?_
   first | refine g_keep [0, 7, 9, 10, 39] [4] [4] (keep_cons rfl (keep_cons rfl (keep_cons rfl (keep_cons rfl (keep_cons rfl keep_nil))))) (lkeep_cons rfl lkeep_nil) (keep_cons rfl keep_nil) rfl ?_ | refine g_keep [0, 7, 9, 10, 39] [4] [4] rfl rfl rfl rfl ?_
   refine g_cond rfl (fun hc39 => ?_) (fun hc39 => ?_)
   ·
    try simp only [NM] at hc39
    refine g_seq (fun K8 hK8 => ?_)
    refine g_region ?_
    refine g_step rfl (s_callp rfl rfl rfl (awake33_ok _) ?_)
    rintro _ rfl
    refine g_step rfl (s_val (v_assign rfl) rfl rfl ?_)
    refine g_nil ?_
    refine g_next hK8 ?_
    refine g_ret ?_
    refine g_then_ret ?_
    refine g_end1 (.inl rfl) Try.results9 (.tmp rfl) [] (ASub.refl _) (by first | exact AHeap.sub_refl _ | exact hsH) (fun p hp => by cases hp) ⟨rfl, ?_⟩
    rfl
   · exfalso; (try simp only [NM] at hc39); first | exact hme hc39 | exact hc39 hme | (simp at hc39; exact hme hc39)
  ·
   refine g_step rfl (s_val (by first | exact v_loadl_all ty24 rfl rfl rfl rfl rfl | exact v_loadl_part (cs := [_, _]) ty24 rfl rfl rfl rfl rfl rfl) rfl rfl ?_)
   have hme : mayE l t wd ≠ 0 := fun h9 => by have := (may_zero h9).2.2.1; omega
   refine g_step rfl (s_val (v_move rfl) rfl rfl ?_)
   refine g_step rfl (s_callp rfl rfl rfl (cnew5_ok t wd _ hv hb) ?_)
   rintro _ rfl
   refine g_step rfl (s_val (v_move rfl) rfl rfl ?_)
   refine g_step rfl (s_val (v_extract rfl rfl) rfl rfl ?_)
   refine g_step rfl (s_val (v_extract rfl rfl) rfl rfl ?_)
   refine g_step rfl (s_val (v_assign rfl) rfl rfl ?_)
   refine g_step rfl (s_val (v_assign rfl) rfl rfl ?_)
   refine g_nil ?_
   refine g_next hK5 ?_
   refine g_seq (fun K9 hK9 => ?_)
   refine g_seq (fun K10 hK10 => ?_)
   refine g_region ?_
   refine g_step rfl (s_val (v_move rfl) rfl rfl ?_)
   refine g_step rfl (s_val (v_neq rfl rfl) rfl rfl ?_)
   refine g_nil ?_
   refine g_next hK10 ?_
   first | refine g_keep [0, 7, 9, 10, 39] [4] [4] (keep_cons rfl (keep_cons rfl (keep_cons rfl (keep_cons rfl (keep_cons rfl keep_nil))))) (lkeep_cons rfl lkeep_nil) (keep_cons rfl keep_nil) rfl ?_ | refine g_keep [0, 7, 9, 10, 39] [4] [4] rfl rfl rfl rfl ?_
   refine g_cond rfl (fun hc39 => ?_) (fun hc39 => ?_)
   ·
    try simp only [NM] at hc39
    refine g_seq (fun K11 hK11 => ?_)
    refine g_region ?_
    refine g_step rfl (s_callp rfl rfl rfl (awake33_ok _) ?_)
    rintro _ rfl
    refine g_step rfl (s_val (v_assign rfl) rfl rfl ?_)
    refine g_nil ?_
    refine g_next hK11 ?_
    refine g_ret ?_
    refine g_then_ret ?_
    refine g_end1 (.inl rfl) Try.results9 (.tmp rfl) [] (ASub.refl _) (by first | exact AHeap.sub_refl _ | exact hsH) (fun p hp => by cases hp) ⟨rfl, ?_⟩
    rfl
   · exfalso; (try simp only [NM] at hc39); first | exact hme hc39 | exact hc39 hme | (simp at hc39; exact hme hc39)
  ·
   refine g_step rfl (s_val (by first | exact v_loadl_all ty24 rfl rfl rfl rfl rfl | exact v_loadl_part (cs := [_, _]) ty24 rfl rfl rfl rfl rfl rfl) rfl rfl ?_)
   refine g_step rfl (s_val (v_move rfl) rfl rfl ?_)
   refine g_step rfl (s_call rfl rfl rfl (cnew_ok t wd _ hv h1 h3 hb) (fun _ h => h.elim) ?_)
   rintro n0 _ effs0 hn0 hdom0 ⟨p, hp0, rfl, rfl⟩ hok0
   have hwp : w0.heap.size ≤ p := Nat.le_trans hn0 hp0
   generalize hG0 : setAll H _ = G0
   have hp : G0 p = some (.box (encCo (⟨t, wd, none, none, none, 0⟩ : Co))) := by rw [← hG0]; exact AHeap.get_set _ _ _
   have hsH : H.sub G0 := by rw [← hG0]; exact AHeap.sub_set (AHeap.sub_refl _) (hw0 p hwp)
   refine g_step rfl (s_val (v_move rfl) rfl rfl ?_)
   refine g_step rfl (s_val (v_extract rfl rfl) rfl rfl ?_)
   refine g_step rfl (s_val (v_extract rfl rfl) rfl rfl ?_)
   refine g_step rfl (s_val (v_assign rfl) rfl rfl ?_)
   refine g_step rfl (s_val (v_assign rfl) rfl rfl ?_)
   refine g_nil ?_
   refine g_next hK5 ?_
   refine g_seq (fun K12 hK12 => ?_)
   refine g_seq (fun K13 hK13 => ?_)
   refine g_region ?_
   refine g_step rfl (s_val (v_move rfl) rfl rfl ?_)
   refine g_step rfl (s_val (v_neq rfl rfl) rfl rfl ?_)
   refine g_nil ?_
   refine g_next hK13 ?_
   first | refine g_keep [0, 7, 9, 10, 39] [4] [4] (keep_cons rfl (keep_cons rfl (keep_cons rfl (keep_cons rfl (keep_cons rfl keep_nil))))) (lkeep_cons rfl lkeep_nil) (keep_cons rfl keep_nil) rfl ?_ | refine g_keep [0, 7, 9, 10, 39] [4] [4] rfl rfl rfl rfl ?_
   refine g_cond rfl (fun hc39 => ?_) (fun hc39 => ?_)
   ·
    try simp only [NM] at hc39
    refine g_seq (fun K14 hK14 => ?_)
    refine g_region ?_
    refine g_step rfl (s_callp rfl rfl rfl (awake33_ok _) ?_)
    rintro _ rfl
    refine g_step rfl (s_val (v_assign rfl) rfl rfl ?_)
    refine g_nil ?_
    refine g_next hK14 ?_
    refine g_ret ?_
    refine g_then_ret ?_
    refine g_end1 (.inl rfl) Try.results9 (.tmp rfl) [] (ASub.refl _) (by first | exact AHeap.sub_refl _ | exact hsH | exact hsH1) (fun p hp => by cases hp) ⟨rfl, ?_⟩
    rfl
   ·
    try simp only [NM] at hc39
    refine g_skip ?_
    refine g_next hK12 ?_
    refine g_seq (fun K15 hK15 => ?_)
    refine g_seq (fun K16 hK16 => ?_)
    refine g_region ?_
    refine g_step rfl (s_val (v_move rfl) rfl rfl ?_)
    refine g_step rfl (s_val (v_neq rfl rfl) rfl rfl ?_)
    refine g_step rfl (s_val (v_move rfl) rfl rfl ?_)
    refine g_split 43 rfl (fun hg43 => ?_) (fun hg43 => ?_)
    · exfalso; (try simp only [NM] at hg43); first | (simp at hg43; done) | exact hg43 rfl | (exfalso; simp_all; done)
    ·
     try simp only [NM] at hg43
     refine g_step_yes (j := 2) (t := 43) rfl rfl rfl rfl (s_val (v_move rfl) rfl rfl ?_)
     refine g_step_yes (j := 2) (t := 43) rfl rfl rfl rfl (s_val (by first | exact v_ptr_eql_nil ty53 rfl rfl rfl | exact v_nil_eql_nil ty53 rfl rfl | exact v_ptrO_eql ty53 rfl rfl) rfl rfl ?_)
     refine g_step rfl (s_val (v_pick_f rfl rfl) rfl rfl ?_)
     refine g_nil ?_
     refine g_next hK16 ?_
     refine g_cond rfl (fun hc46 => ?_) (fun hc46 => ?_)
     · exfalso; (try simp only [NM] at hc46); first | (simp at hc46; done) | exact hc46 rfl | (exfalso; simp_all; done)
     ·
      try simp only [NM] at hc46
      refine g_skip ?_
      refine g_next hK15 ?_
      refine g_seq (fun K17 hK17 => ?_)
      refine g_region ?_
      have hz : mayE l t wd = 0 := by first | omega | simpa using hc39
      have hv2 := spValid_is hv
      have hPl : (nextL (⟨t, wd, none, none, none, 0⟩ : Co) l) = planL l t wd := if_pos hz
      have hPn : (nextL (⟨t, wd, none, none, none, 0⟩ : Co) l).length ≤ 60 := by rw [hPl]; have := plan_len hz; omega
      refine g_step rfl (s_val (v_move rfl) rfl rfl ?_)
      refine g_step rfl (s_callp rfl rfl rfl (recCopy_ok l _ _ rfl (by omega) hs) ?_)
      rintro _ rfl
      refine g_step rfl (s_val (v_assign rfl) rfl rfl ?_)
      refine g_nil ?_
      refine g_next hK17 ?_
      refine g_seq (fun K18 hK18 => ?_)
      refine g_seq (fun K19 hK19 => ?_)
      refine g_region ?_
      refine g_step rfl (s_val (v_assign rfl) rfl rfl ?_)
      refine g_nil ?_
      refine g_next hK19 ?_
      refine g_block ?_
      first | refine g_keep [7, 9, 11, 12] [4] [4] (keep_cons rfl (keep_cons rfl (keep_cons rfl (keep_cons rfl keep_nil)))) (lkeep_cons rfl lkeep_nil) (keep_cons rfl keep_nil) rfl ?_ | refine g_keep [7, 9, 11, 12] [4] [4] rfl rfl rfl rfl ?_
      refine g_loop (fun n env L B G => ∃ (j : Nat) (now : List Rc), j ≤ (nextL (⟨t, wd, none, none, none, 0⟩ : Co) l).length ∧ n = (nextL (⟨t, wd, none, none, none, 0⟩ : Co) l).length - j ∧ env = [(7, (.imm ((nextL (⟨t, wd, none, none, none, 0⟩ : Co) l).map encMv))), (9, .box p 0), (11, (encRs now)), (12, .int .i64 (j : Int))] ∧ L = [(4, 4, 0)] ∧ B = [(4, (encSp t))] ∧ G p = some (.box (encCo (⟨t, wd, none, none, none, 0⟩ : Co))) ∧ H.sub G ∧ mayE now t wd = 0 ∧ planL now t wd = (nextL (⟨t, wd, none, none, none, 0⟩ : Co) l).drop j ∧ now.length = l.length ∧ ∀ x ∈ now, Small x.bag) ((nextL (⟨t, wd, none, none, none, 0⟩ : Co) l).length) ⟨0, l, Nat.zero_le _, rfl, rfl, rfl, rfl, ⟨hp, hsH, hz, by rw [hPl]; rfl, rfl, hs⟩⟩ (fun n env L B G hI => ?_)
      obtain ⟨j, now, hj, rfl, rfl, rfl, rfl, hp, hsH, hm, hpl, hlen, hsn⟩ := hI
      refine g_seq (fun K20 hK20 => ?_)
      refine g_seq (fun K21 hK21 => ?_)
      refine g_region ?_
      refine g_step rfl (s_val (v_move rfl) rfl rfl ?_)
      refine g_step rfl (s_val (v_move rfl) rfl rfl ?_)
      refine g_step rfl (s_val (v_len ty35 rfl (by first | rfl | assumption) (by first | exact List.length_map .. | rfl)) rfl rfl ?_)
      refine g_step rfl (s_val (v_lss rfl rfl) rfl rfl ?_)
      refine g_nil ?_
      refine g_next hK21 ?_
      refine g_cond rfl (fun hc52 => ?_) (fun hc52 => ?_)
      ·
       try simp only [NM] at hc52
       obtain ⟨q, hq⟩ := get_some (l := (nextL (⟨t, wd, none, none, none, 0⟩ : Co) l)) (k := j) (by omega)
       rw [drop_cons hq] at hpl
       have hnx : nextL (⟨t, wd, none, none, none, 0⟩ : Co) now = q :: (nextL (⟨t, wd, none, none, none, 0⟩ : Co) l).drop (j + 1) := (if_pos hm).trans hpl
       obtain ⟨s1, s2, s3⟩ := lead_step hm hpl
       refine g_skip ?_
       refine g_next hK20 ?_
       refine g_seq (fun K22 hK22 => ?_)
       refine g_block ?_
       refine g_seq (fun K23 hK23 => ?_)
       refine g_region ?_
       refine g_step rfl (s_val (v_move rfl) rfl rfl ?_)
       refine g_step rfl (s_val (v_move rfl) rfl rfl ?_)
       refine g_step rfl (s_callp rfl rfl rfl (cNext_ok p (⟨t, wd, none, none, none, 0⟩ : Co) now _ hp (by omega) hsn) ?_)
       rintro _ rfl
       rw [hnx, show mayE now ((⟨t, wd, none, none, none, 0⟩ : Co)).t ((⟨t, wd, none, none, none, 0⟩ : Co)).wd = 0 from hm]
       refine g_step rfl (s_val (v_move rfl) rfl rfl ?_)
       refine g_step rfl (s_val (v_extract rfl rfl) rfl rfl ?_)
       refine g_step rfl (s_val (v_extract rfl rfl) rfl rfl ?_)
       refine g_step rfl (s_val (v_extract rfl rfl) rfl rfl ?_)
       refine g_step rfl (s_alloc (av := (.agg [(.int .i64 0), (.int .i64 0), (.int .i64 0)])) ty42 rfl rfl rfl rfl ?_)
       refine g_step rfl (s_store_all ty42 rfl rfl rfl rfl rfl rfl ?_)
       refine g_step rfl (s_val (v_assign rfl) rfl rfl ?_)
       refine g_step rfl (s_val (v_assign rfl) rfl rfl ?_)
       refine g_nil ?_
       refine g_next hK23 ?_
       refine g_seq (fun K24 hK24 => ?_)
       refine g_seq (fun K25 hK25 => ?_)
       refine g_region ?_
       refine g_step rfl (s_val (v_move rfl) rfl rfl ?_)
       refine g_step rfl (s_val (v_not rfl) rfl rfl ?_)
       refine g_step rfl (s_val (v_move rfl) rfl rfl ?_)
       refine g_split 64 rfl (fun hg64 => ?_) (fun hg64 => ?_)
       · exfalso; (try simp only [NM] at hg64); first | (simp at hg64; done) | exact hg64 rfl | (exfalso; simp_all; done)
       ·
        try simp only [NM] at hg64
        refine g_step_yes (j := 2) (t := 64) rfl rfl rfl rfl (s_val (v_move rfl) rfl rfl ?_)
        refine g_step_yes (j := 2) (t := 64) rfl rfl rfl rfl (s_val (v_neq rfl rfl) rfl rfl ?_)
        refine g_step rfl (s_val (v_pick_f rfl rfl) rfl rfl ?_)
        refine g_nil ?_
        refine g_next hK25 ?_
        refine g_cond rfl (fun hc67 => ?_) (fun hc67 => ?_)
        · exfalso; (try simp only [NM] at hc67); first | (simp at hc67; done) | exact hc67 rfl | (exfalso; simp_all; done)
        ·
         try simp only [NM] at hc67
         refine g_skip ?_
         refine g_next hK24 ?_
         refine g_seq (fun K26 hK26 => ?_)
         refine g_region ?_
         refine g_step rfl (s_val (v_move rfl) rfl rfl ?_)
         refine g_step rfl (s_val (by first | exact v_loadl_all ty42 rfl rfl rfl rfl rfl | exact v_loadl_part (cs := [_, _, _]) ty42 rfl rfl rfl rfl rfl rfl) rfl rfl ?_)
         refine g_step rfl (s_lit ty35 ty42 rfl rfl rfl rfl rfl rfl rfl ?_)
         refine g_step rfl (s_callp rfl rfl rfl (apply_ok now [q] _ _ rfl (by omega) hsn (by simp)) ?_)
         rintro _ rfl
         refine g_step rfl (s_val (v_assign rfl) rfl rfl ?_)
         refine g_nil ?_
         refine g_next hK26 ?_
         first | refine g_keep [7, 9, 11, 12] [4] [4] (keep_cons rfl (keep_cons rfl (keep_cons rfl (keep_cons rfl keep_nil)))) (lkeep_cons rfl lkeep_nil) (keep_cons rfl keep_nil) rfl ?_ | refine g_keep [7, 9, 11, 12] [4] [4] rfl rfl rfl rfl ?_
         refine g_seq (fun K27 hK27 => ?_)
         refine g_region ?_
         refine g_step rfl (s_val (v_move rfl) rfl rfl ?_)
         refine g_step rfl (s_callp rfl rfl rfl (speak_ok (applyL now [q]) _ (by unfold applyL; rw [List.length_map]; omega)) ?_)
         rintro _ rfl
         refine g_step rfl (s_val (v_not rfl) rfl rfl ?_)
         refine g_nil ?_
         refine g_next hK27 ?_
         refine g_cond rfl (fun hc74 => ?_) (fun hc74 => ?_)
         · exfalso; (try simp only [NM] at hc74); rw [s3] at hc74; simp at hc74
         ·
          try simp only [NM] at hc74
          refine g_skip ?_
          refine g_block_normal ?_
          refine g_next hK22 ?_
          refine g_region ?_
          refine g_step rfl (s_val (v_move rfl) rfl rfl ?_)
          refine g_step rfl (s_val (v_add rfl rfl (by omega)) rfl rfl ?_)
          refine g_step rfl (s_val (v_assign rfl) rfl rfl ?_)
          refine g_nil ?_
          first | refine g_keep [7, 9, 11, 12] [4] [4] (keep_cons rfl (keep_cons rfl (keep_cons rfl (keep_cons rfl keep_nil)))) (lkeep_cons rfl lkeep_nil) (keep_cons rfl keep_nil) rfl ?_ | refine g_keep [7, 9, 11, 12] [4] [4] rfl rfl rfl rfl ?_
          exact g_round _ (by omega) ⟨j + 1, applyL now [q], by omega, rfl, rfl, rfl, rfl, ⟨hp, hsH, s1, s2, by unfold applyL; rw [List.length_map]; exact hlen, applyL_small hsn⟩⟩
      ·
       try simp only [NM] at hc52
       obtain rfl : j = (nextL (⟨t, wd, none, none, none, 0⟩ : Co) l).length := by omega
       rw [List.drop_length] at hpl
       have hnx : nextL (⟨t, wd, none, none, none, 0⟩ : Co) now = [] := (if_pos hm).trans hpl
       have hop := lead_end hm hpl
       have hfE : Co.finE (⟨t, wd, none, none, none, 0⟩ : Co) now t.hi = 0 := by rw [Co.finE, if_neg (by omega), if_neg (by rw [(may_zero hm).1]; simp), if_neg (by rw [hop]; simp)]
       have hfB : Co.finB (⟨t, wd, none, none, none, 0⟩ : Co) now t.hi = [] := by rw [Co.finB, hfE]; rfl
       refine g_exit ?_
       refine g_then_exit ?_
       refine g_then_exit ?_
       refine g_block_same ?_
       refine g_next hK18 ?_
       refine g_seq (fun K28 hK28 => ?_)
       refine g_region ?_
       refine g_step rfl (s_val (v_move rfl) rfl rfl ?_)
       refine g_step rfl (s_val (v_move rfl) rfl rfl ?_)
       refine g_step rfl (s_callp rfl rfl rfl (cNext_ok p (⟨t, wd, none, none, none, 0⟩ : Co) now _ hp (by omega) hsn) ?_)
       rintro _ rfl
       rw [hnx, show mayE now ((⟨t, wd, none, none, none, 0⟩ : Co)).t ((⟨t, wd, none, none, none, 0⟩ : Co)).wd = 0 from hm]
       refine g_step rfl (s_val (v_move rfl) rfl rfl ?_)
       refine g_step rfl (s_val (v_extract rfl rfl) rfl rfl ?_)
       refine g_step rfl (s_val (v_extract rfl rfl) rfl rfl ?_)
       refine g_step rfl (s_val (v_extract rfl rfl) rfl rfl ?_)
       refine g_step rfl (s_alloc (av := (.agg [(.int .i64 0), (.int .i64 0), (.int .i64 0)])) ty42 rfl rfl rfl rfl ?_)
       refine g_step rfl (s_store_all ty42 rfl rfl rfl rfl rfl rfl ?_)
       refine g_step rfl (s_val (v_assign rfl) rfl rfl ?_)
       refine g_step rfl (s_val (v_assign rfl) rfl rfl ?_)
       refine g_nil ?_
       refine g_next hK28 ?_
       refine g_seq (fun K29 hK29 => ?_)
       refine g_seq (fun K30 hK30 => ?_)
       refine g_region ?_
       refine g_step rfl (s_val (v_move rfl) rfl rfl ?_)
       refine g_step rfl (s_val (v_move rfl) rfl rfl ?_)
       refine g_split 83 rfl (fun hg83 => ?_) (fun hg83 => ?_)
       · exfalso; (try simp only [NM] at hg83); first | (simp at hg83; done) | exact hg83 rfl | (exfalso; simp_all; done)
       ·
        try simp only [NM] at hg83
        refine g_step_yes (j := 1) (t := 83) rfl rfl rfl rfl (s_val (v_move rfl) rfl rfl ?_)
        refine g_step_yes (j := 1) (t := 83) rfl rfl rfl rfl (s_val (v_neq rfl rfl) rfl rfl ?_)
        refine g_step rfl (s_val (v_pick_f rfl rfl) rfl rfl ?_)
        refine g_nil ?_
        refine g_next hK30 ?_
        refine g_cond rfl (fun hc86 => ?_) (fun hc86 => ?_)
        · exfalso; (try simp only [NM] at hc86); first | (simp at hc86; done) | exact hc86 rfl | (exfalso; simp_all; done)
        ·
         try simp only [NM] at hc86
         refine g_skip ?_
         refine g_next hK29 ?_
         refine g_seq (fun K31 hK31 => ?_)
         refine g_region ?_
         refine g_step rfl (s_val (v_move rfl) rfl rfl ?_)
         refine g_step rfl (s_val (v_move rfl) rfl rfl ?_)
         refine g_step rfl (s_fieldAddr ty24 fo24_1 ty3 rfl rfl ?_)
         refine g_step rfl (s_val (v_loadl ty3 rfl rfl rfl rfl) rfl rfl ?_)
         refine g_step rfl (s_call rfl rfl rfl (cFinalize_ok p (⟨t, wd, none, none, none, 0⟩ : Co) now t.hi 1 _ hp (by omega) hsn (Int.le_refl 0) (by show (0 : Int) ≤ 1000000; decide)) (fun b hb => .inr (by rw [hb]; exact hwp)) ?_)
         rintro n1 _ effs1 hn1 hdom1 ⟨rfl, rfl⟩ hok1
         rw [hfE, hfB]
         generalize hG1 : setAll _ _ = G1
         have hp1 : G1 p = some (.box (encCo (Co.finK (⟨t, wd, none, none, none, 0⟩ : Co) now t.hi 1))) := by rw [← hG1]; exact AHeap.get_set _ _ _
         have hsH1 : H.sub G1 := by rw [← hG1]; exact sub_set' hsH (hw0 p hwp)
         refine g_step rfl (s_val (v_move rfl) rfl rfl ?_)
         refine g_step rfl (s_val (v_extract rfl rfl) rfl rfl ?_)
         refine g_step rfl (s_val (v_extract rfl rfl) rfl rfl ?_)
         refine g_step rfl (s_val (v_assign rfl) rfl rfl ?_)
         refine g_step rfl (s_val (v_assign rfl) rfl rfl ?_)
         refine g_nil ?_
         refine g_next hK31 ?_
         first | refine g_keep [19, 20] [] [] (keep_cons rfl (keep_cons rfl keep_nil)) lkeep_nil keep_nil rfl ?_ | refine g_keep [19, 20] [] [] rfl rfl rfl rfl ?_
         refine g_seq (fun K32 hK32 => ?_)
         refine g_region ?_
         refine g_step rfl (s_val (v_move rfl) rfl rfl ?_)
         refine g_step rfl (s_val (v_len ty27 rfl (by first | rfl | assumption) (by first | exact List.length_map .. | rfl)) rfl rfl ?_)
         refine g_step rfl (s_val (v_eql rfl rfl) rfl rfl ?_)
         refine g_step rfl (s_val (v_move rfl) rfl rfl ?_)
         refine g_split 98 rfl (fun hg98 => ?_) (fun hg98 => ?_)
         ·
          try simp only [NM] at hg98
          refine g_step_yes (j := 3) (t := 98) rfl rfl rfl rfl (s_val (v_move rfl) rfl rfl ?_)
          refine g_step_yes (j := 3) (t := 98) rfl rfl rfl rfl (s_val (v_eql rfl rfl) rfl rfl ?_)
          refine g_step rfl (s_val (v_pick_t rfl rfl) rfl rfl ?_)
          refine g_step rfl (s_val (v_move rfl) rfl rfl ?_)
          refine g_split 102 rfl (fun hg102 => ?_) (fun hg102 => ?_)
          ·
           try simp only [NM] at hg102
           refine g_step_yes (j := 7) (t := 102) rfl rfl rfl rfl (s_callp rfl rfl rfl (awake33_ok _) ?_)
           rintro _ rfl
           refine g_step rfl (s_val (v_pick_t rfl rfl) rfl rfl ?_)
           refine g_step rfl (s_val (v_assign rfl) rfl rfl ?_)
           refine g_nil ?_
           refine g_next hK32 ?_
           refine g_ret ?_
           refine g_end1 (.inl rfl) Try.results9 (.tmp rfl) [] (ASub.refl _) (by first | exact AHeap.sub_refl _ | exact hsH | exact hsH1) (fun p hp => by cases hp) ⟨rfl, ?_⟩
           rfl
          · exfalso; (try simp only [NM] at hg102); first | (simp at hg102; done) | exact hg102 rfl | (exfalso; simp_all; done)
         · exfalso; (try simp only [NM] at hg98); first | (simp at hg98; done) | exact hg98 rfl | (exfalso; simp_all; done)

end Go.Proofs.Ytgedefcjngofkaa

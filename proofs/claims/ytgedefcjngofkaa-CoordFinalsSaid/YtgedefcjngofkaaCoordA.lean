import Derived.Test.YtgedefcjngofkaaCoordF
set_option maxHeartbeats 8000000
set_option linter.unusedSimpArgs false
set_option linter.unusedVariables false
set_option maxRecDepth 100000
namespace Go.Proofs.Ytgedefcjngofkaa
open Go Go.Proofs.Ytgedefcjngofkaa.AM
theorem awake33_ok (G : AHeap) : PCalls Try.prog 30 [] G (fun v => v = .bool true) := by
 refine LCalls.intro 74 fi30 rfl Try.ntmps30 rfl (fun _ h => h.elim) (fun H hH w0 hw0 => ?_)
 refine g_seq (fun K0 hK0 => ?_)
 refine g_region ?_
 refine g_step rfl (s_val (v_assign rfl) rfl rfl ?_)
 refine g_nil ?_
 refine g_next hK0 ?_
 refine g_seq (fun K1 hK1 => ?_)
 refine g_region ?_
 refine g_step rfl (s_val (v_sub (b := (encSp ⟨1, 2⟩)) (v_build (vs := [(0, _), (1, _)]) (zs := [(.int .i64 0), (.int .i64 0)]) (cells := [_, _]) ty24 pl24 rfl rfl rfl) (ASub.of_wk rfl)) rfl rfl ?_)
 refine g_step rfl (s_alloc (av := (.agg [(.int .i64 0), (.int .i64 0)])) ty24 rfl rfl rfl rfl ?_)
 refine g_step rfl (s_store_all ty24 rfl rfl rfl rfl rfl rfl ?_)
 refine g_nil ?_
 refine g_next hK1 ?_
 refine g_seq (fun K2 hK2 => ?_)
 refine g_region ?_
 refine g_step rfl (s_val (by first | exact v_loadl_all ty24 rfl rfl rfl rfl rfl | exact v_loadl_part (cs := [_, _]) ty24 rfl rfl rfl rfl rfl rfl) rfl rfl ?_)
 refine g_step rfl (s_call rfl rfl rfl (cnew_ok ⟨1, 2⟩ 2 _ rfl (by decide) (by decide) (by decide)) (fun _ h => h.elim) ?_)
 rintro n0 _ effs0 hn0 hdom0 ⟨p, hp0, rfl, rfl⟩ hok0
 have hwp : w0.heap.size ≤ p := Nat.le_trans hn0 hp0
 generalize hG0 : setAll H _ = G0
 have hp : G0 p = some (.box (encCo cwK0)) := by rw [← hG0]; exact AHeap.get_set _ _ _
 have hsH : H.sub G0 := by rw [← hG0]; exact AHeap.sub_set (AHeap.sub_refl _) (hw0 p hwp)
 refine g_step rfl (s_val (v_move rfl) rfl rfl ?_)
 refine g_step rfl (s_val (v_extract rfl rfl) rfl rfl ?_)
 refine g_step rfl (s_val (v_extract rfl rfl) rfl rfl ?_)
 refine g_step rfl (s_val (v_assign rfl) rfl rfl ?_)
 refine g_step rfl (s_val (v_assign rfl) rfl rfl ?_)
 refine g_nil ?_
 refine g_next hK2 ?_
 refine g_seq (fun K3 hK3 => ?_)
 refine g_seq (fun K4 hK4 => ?_)
 refine g_region ?_
 refine g_step rfl (s_val (v_move rfl) rfl rfl ?_)
 refine g_step rfl (s_val (v_neq rfl rfl) rfl rfl ?_)
 refine g_step rfl (s_val (v_move rfl) rfl rfl ?_)
 refine g_split 19 rfl (fun hg19 => ?_) (fun hg19 => ?_)
 · exfalso; (try simp only [NM] at hg19); simp at hg19
 ·
  try simp only [NM] at hg19
  refine g_step_yes (j := 2) (t := 19) rfl rfl rfl rfl (s_val (v_move rfl) rfl rfl ?_)
  refine g_step_yes (j := 2) (t := 19) rfl rfl rfl rfl (s_val (by first | exact v_ptr_eql_nil ty53 rfl rfl rfl | exact v_nil_eql_nil ty53 rfl rfl | exact v_ptrO_eql ty53 rfl rfl) rfl rfl ?_)
  refine g_step rfl (s_val (v_pick_f rfl rfl) rfl rfl ?_)
  refine g_nil ?_
  refine g_next hK4 ?_
  refine g_cond rfl (fun hc22 => ?_) (fun hc22 => ?_)
  · exfalso; (try simp only [NM] at hc22); simp at hc22
  ·
   try simp only [NM] at hc22
   refine g_skip ?_
   refine g_next hK3 ?_
   refine g_seq (fun K5 hK5 => ?_)
   refine g_region ?_
   refine g_step rfl (s_val (by first | exact v_loadl_all ty24 rfl rfl rfl rfl rfl | exact v_loadl_part (cs := [_, _]) ty24 rfl rfl rfl rfl rfl rfl) rfl rfl ?_)
   refine g_step rfl (s_val (v_sub (b := (encR ⟨4, 0, 0, ⟨1, 2⟩, false, []⟩)) (v_build (vs := [(0, _), (3, _)]) (zs := [(.int .i64 0), (.int .i64 0), (.int .i64 0), (.int .i64 0), (.int .i64 0), (.bool false), .nil0]) (cells := [_, _, _, _, _, _, _]) ty32 pl32 rfl rfl rfl) (ASub.of_wk rfl)) rfl rfl ?_)
   refine g_step rfl (s_val (by first | exact v_loadl_all ty24 rfl rfl rfl rfl rfl | exact v_loadl_part (cs := [_, _]) ty24 rfl rfl rfl rfl rfl rfl) rfl rfl ?_)
   refine g_step rfl (s_val (v_sub (b := (encR ⟨6, 0, 0, ⟨1, 2⟩, false, []⟩)) (v_build (vs := [(0, _), (3, _)]) (zs := [(.int .i64 0), (.int .i64 0), (.int .i64 0), (.int .i64 0), (.int .i64 0), (.bool false), .nil0]) (cells := [_, _, _, _, _, _, _]) ty32 pl32 rfl rfl rfl) (ASub.of_wk rfl)) rfl rfl ?_)
   refine g_step rfl (s_lit ty22 ty32 rfl rfl rfl rfl rfl rfl rfl ?_)
   refine g_step rfl (s_val (v_assign rfl) rfl rfl ?_)
   refine g_nil ?_
   refine g_next hK5 ?_
   refine g_seq (fun K6 hK6 => ?_)
   refine g_region ?_
   refine g_step rfl (s_val (v_move rfl) rfl rfl ?_)
   refine g_step rfl (s_val (v_move rfl) rfl rfl ?_)
   refine g_step rfl (s_call rfl rfl rfl (cFinalize_ok p cwK0 cwL 2 10 _ hp (by decide) (by simp [cwL, Small, bsize]) (by decide) (by decide)) (fun b hb => .inr (by rw [hb]; exact hwp)) ?_)
   rintro n1 _ effs1 hn1 hdom1 ⟨rfl, rfl⟩ hok1
   rw [cw1.1, cw1.2.1, cw1.2.2]
   generalize hG1 : setAll _ _ = G1
   have hp1 : G1 p = some (.box (encCo cwK1)) := by rw [← hG1]; exact AHeap.get_set _ _ _
   have hsH1 : H.sub G1 := by rw [← hG1]; exact sub_set' hsH (hw0 p hwp)
   refine g_step rfl (s_val (v_move rfl) rfl rfl ?_)
   refine g_step rfl (s_val (v_extract rfl rfl) rfl rfl ?_)
   refine g_step rfl (s_val (v_extract rfl rfl) rfl rfl ?_)
   refine g_step rfl (s_val (v_assign rfl) rfl rfl ?_)
   refine g_step rfl (s_val (v_assign rfl) rfl rfl ?_)
   refine g_nil ?_
   refine g_next hK6 ?_
   first | refine g_keep [2, 4, 6] [1] [1] (keep_cons rfl (keep_cons rfl (keep_cons rfl keep_nil))) (lkeep_cons rfl lkeep_nil) (keep_cons rfl keep_nil) rfl ?_ | refine g_keep [2, 4, 6] [1] [1] rfl rfl rfl rfl ?_
   refine g_seq (fun K7 hK7 => ?_)
   refine g_region ?_
   refine g_step rfl (s_val (v_move rfl) rfl rfl ?_)
   refine g_step rfl (s_callp rfl rfl rfl (cAt_ok p cwK1 1 _ hp1) ?_)
   rintro _ rfl
   rw [show cwK1.at 1 = some 10 from rfl]
   refine g_step rfl (s_val (v_move rfl) rfl rfl ?_)
   refine g_step rfl (s_val (v_extract rfl rfl) rfl rfl ?_)
   refine g_step rfl (s_val (v_extract rfl rfl) rfl rfl ?_)
   refine g_step rfl (s_val (v_assign rfl) rfl rfl ?_)
   refine g_step rfl (s_val (v_assign rfl) rfl rfl ?_)
   refine g_nil ?_
   refine g_next hK7 ?_
   refine g_seq (fun K8 hK8 => ?_)
   refine g_region ?_
   refine g_step rfl (s_val (v_move rfl) rfl rfl ?_)
   refine g_step rfl (s_val (v_move rfl) rfl rfl ?_)
   refine g_step rfl (s_call rfl rfl rfl (cFinalize_ok p cwK1 cwL 3 11 _ hp1 (by decide) (by simp [cwL, Small, bsize]) (by decide) (by decide)) (fun b hb => .inr (by rw [hb]; exact hwp)) ?_)
   rintro n2 _ effs2 hn2 hdom2 ⟨rfl, rfl⟩ hok2
   rw [cw2.1, cw2.2.1, cw2.2.2]
   generalize hG2 : setAll _ _ = G2
   have hp2 : G2 p = some (.box (encCo cwK2)) := by rw [← hG2]; exact AHeap.get_set _ _ _
   have hsH2 : H.sub G2 := by rw [← hG2]; exact sub_set' hsH1 (hw0 p hwp)
   refine g_step rfl (s_val (v_move rfl) rfl rfl ?_)
   refine g_step rfl (s_val (v_extract rfl rfl) rfl rfl ?_)
   refine g_step rfl (s_val (v_extract rfl rfl) rfl rfl ?_)
   refine g_step rfl (s_val (v_assign rfl) rfl rfl ?_)
   refine g_step rfl (s_val (v_assign rfl) rfl rfl ?_)
   refine g_nil ?_
   refine g_next hK8 ?_
   refine g_seq (fun K9 hK9 => ?_)
   refine g_region ?_
   refine g_step rfl (s_val (v_move rfl) rfl rfl ?_)
   refine g_step rfl (s_val (v_eql rfl rfl) rfl rfl ?_)
   refine g_step rfl (s_val (v_move rfl) rfl rfl ?_)
   refine g_split 47 rfl (fun hg47 => ?_) (fun hg47 => ?_)
   ·
    try simp only [NM] at hg47
    refine g_step_yes (j := 2) (t := 47) rfl rfl rfl rfl (s_val (v_move rfl) rfl rfl ?_)
    refine g_step_yes (j := 2) (t := 47) rfl rfl rfl rfl (s_val (v_eql rfl rfl) rfl rfl ?_)
    refine g_step rfl (s_val (v_pick_t rfl rfl) rfl rfl ?_)
    refine g_step rfl (s_val (v_move rfl) rfl rfl ?_)
    refine g_split 51 rfl (fun hg51 => ?_) (fun hg51 => ?_)
    ·
     try simp only [NM] at hg51
     refine g_step_yes (j := 6) (t := 51) rfl rfl rfl rfl (s_val (v_move rfl) rfl rfl ?_)
     refine g_step rfl (s_val (v_pick_t rfl rfl) rfl rfl ?_)
     refine g_step rfl (s_val (v_move rfl) rfl rfl ?_)
     refine g_split 54 rfl (fun hg54 => ?_) (fun hg54 => ?_)
     ·
      try simp only [NM] at hg54
      refine g_step_yes (j := 9) (t := 54) rfl rfl rfl rfl (s_val (v_move rfl) rfl rfl ?_)
      refine g_step_yes (j := 9) (t := 54) rfl rfl rfl rfl (s_val (v_eql rfl rfl) rfl rfl ?_)
      refine g_step rfl (s_val (v_pick_t rfl rfl) rfl rfl ?_)
      refine g_step rfl (s_val (v_move rfl) rfl rfl ?_)
      refine g_split 58 rfl (fun hg58 => ?_) (fun hg58 => ?_)
      ·
       try simp only [NM] at hg58
       refine g_step_yes (j := 13) (t := 58) rfl rfl rfl rfl (s_val (v_move rfl) rfl rfl ?_)
       refine g_step_yes (j := 13) (t := 58) rfl rfl rfl rfl (s_val (v_len ty27 rfl (by first | rfl | assumption) (by first | exact List.length_map .. | rfl)) rfl rfl ?_)
       refine g_step_yes (j := 13) (t := 58) rfl rfl rfl rfl (s_val (v_eql rfl rfl) rfl rfl ?_)
       refine g_step rfl (s_val (v_pick_t rfl rfl) rfl rfl ?_)
       refine g_step rfl (s_val (v_move rfl) rfl rfl ?_)
       refine g_split 63 rfl (fun hg63 => ?_) (fun hg63 => ?_)
       ·
        try simp only [NM] at hg63
        refine g_step_yes (j := 18) (t := 63) rfl rfl rfl rfl (s_val (v_move rfl) rfl rfl ?_)
        refine g_step_yes (j := 18) (t := 63) rfl rfl rfl rfl (s_val (v_sub (b := (encSp ⟨1, 1⟩)) (v_build (vs := [(0, _), (1, _)]) (zs := [(.int .i64 0), (.int .i64 0)]) (cells := [_, _]) ty24 pl24 rfl rfl rfl) (ASub.of_wk rfl)) rfl rfl ?_)
        refine g_step_yes (j := 18) (t := 63) rfl rfl rfl rfl (s_callp rfl rfl rfl (cAdmits_ok p cwK2 ⟨1, 1⟩ _ hp2) ?_)
        rintro _ rfl
        rw [show (spValid ⟨1, 1⟩ && decide (cwK2.level ≤ (⟨1, 1⟩ : Sp).hi)) = false from rfl]
        refine g_step_yes (j := 18) (t := 63) rfl rfl rfl rfl (s_val (v_not rfl) rfl rfl ?_)
        refine g_step rfl (s_val (v_pick_t rfl rfl) rfl rfl ?_)
        refine g_step rfl (s_val (v_move rfl) rfl rfl ?_)
        refine g_split 69 rfl (fun hg69 => ?_) (fun hg69 => ?_)
        ·
         try simp only [NM] at hg69
         refine g_step_yes (j := 24) (t := 69) rfl rfl rfl rfl (s_val (v_move rfl) rfl rfl ?_)
         refine g_step_yes (j := 24) (t := 69) rfl rfl rfl rfl (s_val (by first | exact v_loadl_all ty24 rfl rfl rfl rfl rfl | exact v_loadl_part (cs := [_, _]) ty24 rfl rfl rfl rfl rfl rfl) rfl rfl ?_)
         refine g_step_yes (j := 24) (t := 69) rfl rfl rfl rfl (s_callp rfl rfl rfl (cAdmits_ok p cwK2 ⟨1, 2⟩ _ hp2) ?_)
         rintro _ rfl
         rw [show (spValid ⟨1, 2⟩ && decide (cwK2.level ≤ (⟨1, 2⟩ : Sp).hi)) = true from rfl]
         refine g_step rfl (s_val (v_pick_t rfl rfl) rfl rfl ?_)
         refine g_step rfl (s_val (v_assign rfl) rfl rfl ?_)
         refine g_nil ?_
         refine g_next hK9 ?_
         first | refine g_keep [0] [] [] (keep_cons rfl keep_nil) lkeep_nil keep_nil rfl ?_ | refine g_keep [0] [] [] rfl rfl rfl rfl ?_
         refine g_ret ?_
         refine g_end1 (.inl rfl) Try.results30 (.tmp rfl) [] (ASub.refl _) hsH2 (fun p hp => by cases hp) ⟨rfl, ?_⟩
         rfl
        · exfalso; (try simp only [NM] at hg69); first | exact hg69 rfl | (simp at hg69; done) | (simp [snI] at hg69; done)
       · exfalso; (try simp only [NM] at hg63); first | exact hg63 rfl | (simp at hg63; done) | (simp [snI] at hg63; done)
      · exfalso; (try simp only [NM] at hg58); first | exact hg58 rfl | (simp at hg58; done) | (simp [snI] at hg58; done)
     · exfalso; (try simp only [NM] at hg54); first | exact hg54 rfl | (simp at hg54; done) | (simp [snI] at hg54; done)
    · exfalso; (try simp only [NM] at hg51); first | exact hg51 rfl | (simp at hg51; done) | (simp [snI] at hg51; done)
   · exfalso; (try simp only [NM] at hg47); first | exact hg47 rfl | (simp at hg47; done) | (simp [snI] at hg47; done)

end Go.Proofs.Ytgedefcjngofkaa

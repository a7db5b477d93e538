import Derived.Test.YtgedefcjngofkaaCoordB
import Derived.Test.YtgedefcjngofkaaPCoord2
set_option maxHeartbeats 8000000
set_option linter.unusedSimpArgs false
set_option linter.unusedVariables false
set_option maxRecDepth 100000
namespace Go.Proofs.Ytgedefcjngofkaa
open Go Go.Proofs.Ytgedefcjngofkaa.AM
theorem coordFinals_ok (l : List Wn) (s : Sp) (hh : ∀ w ∈ l, ∀ r ∈ w.view, Held r.bag) (hh2 : ∀ w ∈ l, w.view.length ≤ 140737488351232) (hl : l.length ≤ 140737488351232) (G : AHeap) : PCalls Try.prog 7 [.imm (l.map encWn), encSp s] G (fun v => v = .bool true) := by
 refine LCalls.intro 211 fi7 rfl Try.ntmps7 rfl (fun _ h => h.elim) (fun H hH w0 hw0 => ?_)
 refine g_seq (fun K0 hK0 => ?_)
 refine g_region ?_
 refine g_step rfl (s_box rfl rfl rfl rfl ?_)
 refine g_step rfl (s_val (v_assign rfl) rfl rfl ?_)
 refine g_nil ?_
 refine g_next hK0 ?_
 refine g_seq (fun K1 hK1 => ?_)
 refine g_seq (fun K2 hK2 => ?_)
 refine g_region ?_
 refine g_step rfl (s_val (v_move rfl) rfl rfl ?_)
 refine g_step rfl (s_val (v_len ty52 rfl (by first | rfl | assumption) (by first | exact List.length_map .. | rfl)) rfl rfl ?_)
 refine g_step rfl (s_val (v_gtr rfl rfl) rfl rfl ?_)
 refine g_nil ?_
 refine g_next hK2 ?_
 refine g_cond rfl (fun hc21 => ?_) (fun hc21 => ?_)
 ·
  try simp only [NM] at hc21
  refine g_seq (fun K3 hK3 => ?_)
  refine g_region ?_
  refine g_step rfl (s_callp rfl rfl rfl (awake33_ok _) ?_)
  rintro _ rfl
  refine g_step rfl (s_val (v_assign rfl) rfl rfl ?_)
  refine g_nil ?_
  refine g_next hK3 ?_
  refine g_ret ?_
  refine g_then_ret ?_
  refine g_end1 (.inl rfl) Try.results7 (.tmp rfl) [] (ASub.refl _) (by first | exact AHeap.sub_refl _ | exact hsH | exact hsH1) (fun p hp => by cases hp) ⟨rfl, ?_⟩
  rfl
 ·
  try simp only [NM] at hc21
  refine g_skip ?_
  refine g_next hK1 ?_
  refine g_seq (fun K4 hK4 => ?_)
  refine g_region ?_
  refine g_step rfl (s_val (v_sub (b := (encSp ⟨1, 3⟩)) (v_build (vs := [(0, _), (1, _)]) (zs := [(.int .i64 0), (.int .i64 0)]) (cells := [_, _]) ty24 pl24 rfl rfl rfl) (ASub.of_wk rfl)) rfl rfl ?_)
  refine g_step rfl (s_call rfl rfl rfl (cnew_ok ⟨1, 3⟩ 3 _ rfl (by decide) (by decide) (by decide)) (fun _ h => h.elim) ?_)
  rintro n0 _ effs0 hn0 hdom0 ⟨p, hp0, rfl, rfl⟩ hok0
  have hwp : w0.heap.size ≤ p := Nat.le_trans hn0 hp0
  generalize hG0 : setAll H _ = G0
  have hp : G0 p = some (.box (encCo (⟨⟨1, 3⟩, 3, none, none, none, 0⟩ : Co))) := by rw [← hG0]; exact AHeap.get_set _ _ _
  have hsH : H.sub G0 := by rw [← hG0]; exact AHeap.sub_set (AHeap.sub_refl _) (hw0 p hwp)
  refine g_step rfl (s_val (v_move rfl) rfl rfl ?_)
  refine g_step rfl (s_val (v_extract rfl rfl) rfl rfl ?_)
  refine g_step rfl (s_val (v_extract rfl rfl) rfl rfl ?_)
  refine g_step rfl (s_val (v_assign rfl) rfl rfl ?_)
  refine g_step rfl (s_val (v_assign rfl) rfl rfl ?_)
  refine g_nil ?_
  refine g_next hK4 ?_
  refine g_seq (fun K5 hK5 => ?_)
  refine g_seq (fun K6 hK6 => ?_)
  refine g_region ?_
  refine g_step rfl (s_val (v_move rfl) rfl rfl ?_)
  refine g_step rfl (s_val (v_neq rfl rfl) rfl rfl ?_)
  refine g_step rfl (s_val (v_move rfl) rfl rfl ?_)
  refine g_split 30 rfl (fun hg30 => ?_) (fun hg30 => ?_)
  · exfalso; (try simp only [NM] at hg30); first | (simp at hg30; done) | exact hg30 rfl | (exfalso; simp_all; done)
  ·
   try simp only [NM] at hg30
   refine g_step_yes (j := 2) (t := 30) rfl rfl rfl rfl (s_val (v_move rfl) rfl rfl ?_)
   refine g_step_yes (j := 2) (t := 30) rfl rfl rfl rfl (s_val (by first | exact v_ptr_eql_nil ty53 rfl rfl rfl | exact v_nil_eql_nil ty53 rfl rfl | exact v_ptrO_eql ty53 rfl rfl) rfl rfl ?_)
   refine g_step rfl (s_val (v_pick_f rfl rfl) rfl rfl ?_)
   refine g_nil ?_
   refine g_next hK6 ?_
   refine g_cond rfl (fun hc33 => ?_) (fun hc33 => ?_)
   · exfalso; (try simp only [NM] at hc33); first | (simp at hc33; done) | exact hc33 rfl | (exfalso; simp_all; done)
   ·
    try simp only [NM] at hc33
    refine g_skip ?_
    refine g_next hK5 ?_
    refine g_seq (fun K7 hK7 => ?_)
    refine g_region ?_
    refine g_step rfl (s_makeO (n := 4) (za := (.int .i64 0)) ty27 ty3 rfl rfl rfl rfl rfl rfl (by omega) (by omega) ?_)
    intro r34 hr34 hw34
    refine g_step rfl (s_val (v_assign rfl) rfl rfl ?_)
    refine g_nil ?_
    refine g_next hK7 ?_
    refine g_seq (fun K8 hK8 => ?_)
    refine g_region ?_
    have hpr34 : p ≠ r34 := fun e => by rw [← e, hp] at hr34; cases hr34
    have hp9 : (AHeap.set G0 r34 (.row 1 (List.replicate 4 (.int .i64 0)))) p = some (.box (encCo (⟨⟨1, 3⟩, 3, none, none, none, 0⟩ : Co))) := (AHeap.get_set_ne _ _ hpr34).trans hp
    have hsH9 : H.sub (AHeap.set G0 r34 (.row 1 (List.replicate 4 (.int .i64 0)))) := AHeap.sub_set hsH hr34
    refine g_step rfl (s_val (v_assign rfl) rfl rfl ?_)
    refine g_nil ?_
    refine g_next hK8 ?_
    refine g_seq (fun K9 hK9 => ?_)
    refine g_seq (fun K10 hK10 => ?_)
    refine g_region ?_
    refine g_step rfl (s_val (v_assign rfl) rfl rfl ?_)
    refine g_nil ?_
    refine g_next hK10 ?_
    refine g_block ?_
    first | refine g_keep [0, 5, 7, 8, 9] [3] [3] (keep_cons rfl (keep_cons rfl (keep_cons rfl (keep_cons rfl (keep_cons rfl keep_nil))))) (lkeep_cons rfl lkeep_nil) (keep_cons rfl keep_nil) rfl ?_ | refine g_keep [0, 5, 7, 8, 9] [3] [3] rfl rfl rfl rfl ?_
    refine g_loop (fun n env L B G => ∃ (j : Nat) (k : Co) (sl : List Int) (lv : Nat), j ≤ l.length ∧ n = l.length - j ∧ env = [(0, .imm (l.map encWn)), (5, .box p 0), (7, .own r34 1 0 4), (8, .int .i64 (lv : Int)), (9, .int .i64 (j : Int))] ∧ L = [(3, 3, 0)] ∧ B = [(3, (encSp s))] ∧ G p = some (.box (encCo k)) ∧ G r34 = some (.row 1 (sl.map (.int .i64))) ∧ H.sub G ∧ FR k sl lv ∧ k.ask = (j : Int)) (l.length) ⟨0, (⟨⟨1, 3⟩, 3, none, none, none, 0⟩ : Co), [0, 0, 0, 0], 0, Nat.zero_le _, rfl, rfl, rfl, rfl, ⟨hp9, AHeap.get_set _ _ _, hsH9, FR.zero, rfl⟩⟩ (fun n env L B G hI => ?_)
    obtain ⟨j, k, sl, lv, hj, rfl, rfl, rfl, rfl, hp, hr, hsH, hF, hak0⟩ := hI
    refine g_seq (fun K11 hK11 => ?_)
    refine g_seq (fun K12 hK12 => ?_)
    refine g_region ?_
    refine g_step rfl (s_val (v_move rfl) rfl rfl ?_)
    refine g_step rfl (s_val (v_move rfl) rfl rfl ?_)
    refine g_step rfl (s_val (v_len ty52 rfl (by first | rfl | assumption) (by first | exact List.length_map .. | rfl)) rfl rfl ?_)
    refine g_step rfl (s_val (v_lss rfl rfl) rfl rfl ?_)
    refine g_nil ?_
    refine g_next hK12 ?_
    refine g_cond rfl (fun hc38 => ?_) (fun hc38 => ?_)
    ·
     try simp only [NM] at hc38
     obtain ⟨w, hw⟩ := get_some (l := l) (k := j) (by omega)
     have hprs : r34 ≠ p := Ne.symm hpr34
     have hsl := hF.len
     have hle := hF.le
     refine g_skip ?_
     refine g_next hK11 ?_
     refine g_seq (fun K13 hK13 => ?_)
     refine g_block ?_
     refine g_seq (fun K14 hK14 => ?_)
     refine g_region ?_
     refine g_step rfl (s_val (v_move rfl) rfl rfl ?_)
     refine g_step rfl (s_val (v_move rfl) rfl rfl ?_)
     refine g_step rfl (s_val (v_indexAddr ty52 ty57 rfl rfl (by first | rfl | assumption) (by first | rfl | exact (rfl : (0 : Int) = ((0 : Nat) : Int)) | exact (Int.toNat_of_nonneg (by omega)).symm) (map_get hw) rfl) rfl rfl ?_)
     refine g_step rfl (s_val (by first | exact v_load_elt ty57 rfl rfl (by first | rfl | assumption) (map_get hw) rfl rfl | exact v_load_box_all ty57 rfl rfl (by assumption) rfl rfl | exact v_load_part (cs := [_, _, _]) ty57 rfl rfl (by first | rfl | assumption) (map_get hw) rfl rfl rfl | exact v_load_box_part (cs := [_, _, _]) ty57 rfl rfl (by assumption) rfl rfl rfl) rfl rfl ?_)
     refine g_step rfl (s_alloc (av := (.agg [.nil0, (.int .i64 0), (.int .i64 0)])) ty57 rfl rfl rfl rfl ?_)
     refine g_step rfl (s_store_all ty57 rfl rfl rfl rfl rfl rfl ?_)
     refine g_nil ?_
     refine g_next hK14 ?_
     refine g_seq (fun K15 hK15 => ?_)
     refine g_seq (fun K16 hK16 => ?_)
     refine g_region ?_
     refine g_step rfl (s_fieldAddr ty57 fo57_0 ty22 rfl rfl ?_)
     refine g_step rfl (s_val (v_loadl ty22 rfl rfl rfl rfl) rfl rfl ?_)
     refine g_step rfl (s_callp rfl rfl rfl (fewL_ok w.view _ _ rfl (hh w (mem_get hw)) (hh2 w (mem_get hw))) ?_)
     rintro _ rfl
     refine g_step rfl (s_val (v_not rfl) rfl rfl ?_)
     refine g_nil ?_
     refine g_next hK16 ?_
     refine g_cond rfl (fun hc48 => ?_) (fun hc48 => ?_)
     ·
      try simp only [NM] at hc48
      refine g_seq (fun K17 hK17 => ?_)
      refine g_region ?_
      refine g_step rfl (s_callp rfl rfl rfl (awake33_ok _) ?_)
      rintro _ rfl
      refine g_step rfl (s_val (v_assign rfl) rfl rfl ?_)
      refine g_nil ?_
      refine g_next hK17 ?_
      refine g_ret ?_
      refine g_then_ret ?_
      refine g_block_ret ?_
      refine g_then_ret ?_
      refine g_then_ret ?_
      refine g_block_ret ?_
      refine g_then_ret ?_
      refine g_end1 (.inl rfl) Try.results7 (.tmp rfl) [] (ASub.refl _) (by first | exact AHeap.sub_refl _ | exact hsH | exact hsH1) (fun p hp => by cases hp) ⟨rfl, ?_⟩
      rfl
     ·
      try simp only [NM] at hc48
      obtain ⟨hl20, hs⟩ := fewL_small (l := w.view) (by simpa using hc48)
      refine g_skip ?_
      refine g_next hK15 ?_
      refine g_seq (fun K18 hK18 => ?_)
      refine g_region ?_
      refine g_step rfl (s_val (v_move rfl) rfl rfl ?_)
      refine g_step rfl (s_fieldAddr ty57 fo57_0 ty22 rfl rfl ?_)
      refine g_step rfl (s_val (v_loadl ty22 rfl rfl rfl rfl) rfl rfl ?_)
      refine g_step rfl (s_fieldAddr ty57 fo57_1 ty3 rfl rfl ?_)
      refine g_step rfl (s_val (v_loadl ty3 rfl rfl rfl rfl) rfl rfl ?_)
      refine g_step rfl (s_fieldAddr ty57 fo57_2 ty3 rfl rfl ?_)
      refine g_step rfl (s_val (v_loadl ty3 rfl rfl rfl rfl) rfl rfl ?_)
      refine g_step rfl (s_call rfl rfl rfl (cFinalize_ok p k w.view w.g w.now _ hp (by omega) hs (by omega) (by omega)) (fun b hb => .inr (by rw [hb]; exact hwp)) ?_)
      rintro n1 _ effs1 hn1 hdom1 ⟨rfl, rfl⟩ hok1
      generalize hG1 : setAll _ _ = G1
      have hp1 : G1 p = some (.box (encCo (k.finK w.view w.g w.now))) := by rw [← hG1]; exact AHeap.get_set _ _ _
      have hr1 : G1 r34 = some (.row 1 (sl.map (.int .i64))) := by rw [← hG1]; exact (AHeap.get_set_ne _ _ hprs).trans hr
      have hsH1 : H.sub G1 := by rw [← hG1]; exact sub_set' hsH (hw0 p hwp)
      have hak := k.finK_ask w.view w.g w.now
      refine g_step rfl (s_val (v_move rfl) rfl rfl ?_)
      refine g_step rfl (s_val (v_extract rfl rfl) rfl rfl ?_)
      refine g_step rfl (s_val (v_extract rfl rfl) rfl rfl ?_)
      refine g_step rfl (s_val (v_assign rfl) rfl rfl ?_)
      refine g_step rfl (s_val (v_assign rfl) rfl rfl ?_)
      refine g_nil ?_
      refine g_next hK18 ?_
      first | refine g_keep [0, 5, 7, 8, 9, 11, 12] [3, 10] [3, 10] (keep_cons rfl (keep_cons rfl (keep_cons rfl (keep_cons rfl (keep_cons rfl (keep_cons rfl (keep_cons rfl keep_nil))))))) (lkeep_cons rfl (lkeep_cons rfl lkeep_nil)) (keep_cons rfl (keep_cons rfl keep_nil)) rfl ?_ | refine g_keep [0, 5, 7, 8, 9, 11, 12] [3, 10] [3, 10] rfl rfl rfl rfl ?_
      refine g_cut (fun env L B G => ∃ (k2 : Co) (sl2 : List Int) (lv2 : Nat), env = [(0, (.imm (l.map encWn))), (5, .box p 0), (7, .own r34 1 0 4), (8, .int .i64 (lv2 : Int)), (9, .int .i64 (j : Int))] ∧ L = [(3, 3, 0)] ∧ B = [(3, (encSp s))] ∧ G p = some (.box (encCo k2)) ∧ G r34 = some (.row 1 (sl2.map (.int .i64))) ∧ H.sub G ∧ FR k2 sl2 lv2 ∧ k2.ask = (j : Int) + 1) ?_ (fun env L B G hI => ?_)
      ·
       refine g_seq (fun K19 hK19 => ?_)
       refine g_region ?_
       refine g_step rfl (s_fieldAddr ty57 fo57_1 ty3 rfl rfl ?_)
       refine g_step rfl (s_val (v_loadl ty3 rfl rfl rfl rfl) rfl rfl ?_)
       refine g_step rfl (s_val (v_lss rfl rfl) rfl rfl ?_)
       refine g_step rfl (s_val (v_move rfl) rfl rfl ?_)
       refine g_split 64 rfl (fun hg64 => ?_) (fun hg64 => ?_)
       ·
        try simp only [NM] at hg64
        refine g_step_no (j := 3) (t := 64) rfl rfl rfl rfl rfl rfl rfl ?_
        refine g_step_no (j := 3) (t := 64) rfl rfl rfl rfl rfl rfl rfl ?_
        refine g_step_no (j := 3) (t := 64) rfl rfl rfl rfl rfl rfl rfl ?_
        refine g_step rfl (s_val (v_pick_t rfl rfl) rfl rfl ?_)
        refine g_nil ?_
        refine g_next hK19 ?_
        refine g_cond rfl (fun _ => ?_) (fun h => by cases h)
        refine g_seq (fun K20 hK20 => ?_)
        refine g_region ?_
        have hE : k.finE w.view w.g = 5 := by rw [Co.finE, if_pos (by omega)]
        have hB : k.finB w.view w.g = [] := by rw [Co.finB, hE]; rfl
        rw [hE, hB]
        have hF2 := hF.ok9 (now := w.now) (l := w.view) (g := w.g) (by rw [hE]; decide)
        refine g_step rfl (s_val (v_move rfl) rfl rfl ?_)
        refine g_step rfl (s_val (v_len ty27 rfl (by first | rfl | assumption) (by first | exact List.length_map .. | rfl)) rfl rfl ?_)
        refine g_step rfl (s_val (v_neq rfl rfl) rfl rfl ?_)
        refine g_step rfl (s_val (v_move rfl) rfl rfl ?_)
        refine g_split 72 rfl (fun hg72 => ?_) (fun hg72 => ?_)
        · exfalso; (try simp only [NM] at hg72); first | (simp at hg72; done) | exact hg72 rfl | (exfalso; simp_all; done)
        ·
         try simp only [NM] at hg72
         refine g_step_yes (j := 3) (t := 72) rfl rfl rfl rfl (s_val (v_move rfl) rfl rfl ?_)
         refine g_step_yes (j := 3) (t := 72) rfl rfl rfl rfl (s_val (v_neq rfl rfl) rfl rfl ?_)
         refine g_step rfl (s_val (v_pick_f rfl rfl) rfl rfl ?_)
         refine g_nil ?_
         refine g_next hK20 ?_
         refine g_cond rfl (fun hc75 => ?_) (fun hc75 => ?_)
         · exfalso; (try simp only [NM] at hc75); first | (simp at hc75; done) | exact hc75 rfl | (exfalso; simp_all; done)
         ·
          try simp only [NM] at hc75
          refine g_skip ?_
          first | refine g_keep [0, 5, 7, 8, 9] [3] [3] (keep_cons rfl (keep_cons rfl (keep_cons rfl (keep_cons rfl (keep_cons rfl keep_nil))))) (lkeep_cons rfl lkeep_nil) (keep_cons rfl keep_nil) rfl ?_ | refine g_keep [0, 5, 7, 8, 9] [3] [3] rfl rfl rfl rfl ?_
          first | exact g_has ⟨(k.finK w.view w.g w.now), setR sl lv w.now q, gn, rfl, rfl, rfl, ⟨hp1, hr3, hsH3, by have hm : max lv gn = gn := (by omega); rw [← hgn] at hF3; rw [show q = gn - lv by omega]; rw [hm] at hF3; exact hF3, by omega⟩⟩ | exact g_has ⟨(k.finK w.view w.g w.now), setR sl lv w.now q, lv, rfl, rfl, rfl, ⟨hp1, hr3, hsH3, by have hm : max lv gn = lv := (by omega); rw [← hgn] at hF3; rw [show q = gn - lv by omega]; rw [hm] at hF3; exact hF3, by omega⟩⟩ | exact g_has ⟨(k.finK w.view w.g w.now), sl, lv, rfl, rfl, rfl, ⟨hp1, hr1, hsH1, hF2, by omega⟩⟩
       ·
        try simp only [NM] at hg64
        refine g_step_yes (j := 3) (t := 64) rfl rfl rfl rfl (s_fieldAddr ty57 fo57_1 ty3 rfl rfl ?_)
        refine g_step_yes (j := 3) (t := 64) rfl rfl rfl rfl (s_val (v_loadl ty3 rfl rfl rfl rfl) rfl rfl ?_)
        refine g_step_yes (j := 3) (t := 64) rfl rfl rfl rfl (s_val (v_gtr rfl rfl) rfl rfl ?_)
        refine g_step rfl (s_val (v_pick_f rfl rfl) rfl rfl ?_)
        refine g_nil ?_
        refine g_next hK19 ?_
        refine g_cond rfl (fun hc68 => ?_) (fun hc68 => ?_)
        ·
         try simp only [NM] at hc68
         refine g_seq (fun K21 hK21 => ?_)
         refine g_region ?_
         have hE : k.finE w.view w.g = 5 := by rw [Co.finE, if_pos (by omega)]
         have hB : k.finB w.view w.g = [] := by rw [Co.finB, hE]; rfl
         rw [hE, hB]
         have hF2 := hF.ok9 (now := w.now) (l := w.view) (g := w.g) (by rw [hE]; decide)
         refine g_step rfl (s_val (v_move rfl) rfl rfl ?_)
         refine g_step rfl (s_val (v_len ty27 rfl (by first | rfl | assumption) (by first | exact List.length_map .. | rfl)) rfl rfl ?_)
         refine g_step rfl (s_val (v_neq rfl rfl) rfl rfl ?_)
         refine g_step rfl (s_val (v_move rfl) rfl rfl ?_)
         refine g_split 72 rfl (fun hg72 => ?_) (fun hg72 => ?_)
         · exfalso; (try simp only [NM] at hg72); first | (simp at hg72; done) | exact hg72 rfl | (exfalso; simp_all; done)
         ·
          try simp only [NM] at hg72
          refine g_step_yes (j := 3) (t := 72) rfl rfl rfl rfl (s_val (v_move rfl) rfl rfl ?_)
          refine g_step_yes (j := 3) (t := 72) rfl rfl rfl rfl (s_val (v_neq rfl rfl) rfl rfl ?_)
          refine g_step rfl (s_val (v_pick_f rfl rfl) rfl rfl ?_)
          refine g_nil ?_
          refine g_next hK21 ?_
          refine g_cond rfl (fun hc75 => ?_) (fun hc75 => ?_)
          · exfalso; (try simp only [NM] at hc75); first | (simp at hc75; done) | exact hc75 rfl | (exfalso; simp_all; done)
          ·
           try simp only [NM] at hc75
           refine g_skip ?_
           first | refine g_keep [0, 5, 7, 8, 9] [3] [3] (keep_cons rfl (keep_cons rfl (keep_cons rfl (keep_cons rfl (keep_cons rfl keep_nil))))) (lkeep_cons rfl lkeep_nil) (keep_cons rfl keep_nil) rfl ?_ | refine g_keep [0, 5, 7, 8, 9] [3] [3] rfl rfl rfl rfl ?_
           first | exact g_has ⟨(k.finK w.view w.g w.now), setR sl lv w.now q, gn, rfl, rfl, rfl, ⟨hp1, hr3, hsH3, by have hm : max lv gn = gn := (by omega); rw [← hgn] at hF3; rw [show q = gn - lv by omega]; rw [hm] at hF3; exact hF3, by omega⟩⟩ | exact g_has ⟨(k.finK w.view w.g w.now), setR sl lv w.now q, lv, rfl, rfl, rfl, ⟨hp1, hr3, hsH3, by have hm : max lv gn = lv := (by omega); rw [← hgn] at hF3; rw [show q = gn - lv by omega]; rw [hm] at hF3; exact hF3, by omega⟩⟩ | exact g_has ⟨(k.finK w.view w.g w.now), sl, lv, rfl, rfl, rfl, ⟨hp1, hr1, hsH1, hF2, by omega⟩⟩
        ·
         try simp only [NM] at hc68
         refine g_seq (fun K22 hK22 => ?_)
         refine g_region ?_
         refine g_step rfl (s_fieldAddr ty57 fo57_0 ty22 rfl rfl ?_)
         refine g_step rfl (s_val (v_loadl ty22 rfl rfl rfl rfl) rfl rfl ?_)
         refine g_step rfl (s_callp rfl rfl rfl (sorted_ok w.view _ (by omega) hs) ?_)
         rintro _ rfl
         refine g_step rfl (s_val (v_not rfl) rfl rfl ?_)
         refine g_nil ?_
         refine g_next hK22 ?_
         refine g_cond rfl (fun hc79 => ?_) (fun hc79 => ?_)
         ·
          try simp only [NM] at hc79
          refine g_seq (fun K23 hK23 => ?_)
          refine g_region ?_
          have hE : k.finE w.view w.g = 1 := by rw [Co.finE, if_neg (by omega), if_pos (by simp_all)]
          have hB : k.finB w.view w.g = [] := by rw [Co.finB, hE]; rfl
          rw [hE, hB]
          have hF2 := hF.ok9 (now := w.now) (l := w.view) (g := w.g) (by rw [hE]; decide)
          refine g_step rfl (s_val (v_move rfl) rfl rfl ?_)
          refine g_step rfl (s_val (v_len ty27 rfl (by first | rfl | assumption) (by first | exact List.length_map .. | rfl)) rfl rfl ?_)
          refine g_step rfl (s_val (v_neq rfl rfl) rfl rfl ?_)
          refine g_step rfl (s_val (v_move rfl) rfl rfl ?_)
          refine g_split 83 rfl (fun hg83 => ?_) (fun hg83 => ?_)
          · exfalso; (try simp only [NM] at hg83); first | (simp at hg83; done) | exact hg83 rfl | (exfalso; simp_all; done)
          ·
           try simp only [NM] at hg83
           refine g_step_yes (j := 3) (t := 83) rfl rfl rfl rfl (s_val (v_move rfl) rfl rfl ?_)
           refine g_step_yes (j := 3) (t := 83) rfl rfl rfl rfl (s_val (v_neq rfl rfl) rfl rfl ?_)
           refine g_step rfl (s_val (v_pick_f rfl rfl) rfl rfl ?_)
           refine g_nil ?_
           refine g_next hK23 ?_
           refine g_cond rfl (fun hc86 => ?_) (fun hc86 => ?_)
           · exfalso; (try simp only [NM] at hc86); first | (simp at hc86; done) | exact hc86 rfl | (exfalso; simp_all; done)
           ·
            try simp only [NM] at hc86
            refine g_skip ?_
            first | refine g_keep [0, 5, 7, 8, 9] [3] [3] (keep_cons rfl (keep_cons rfl (keep_cons rfl (keep_cons rfl (keep_cons rfl keep_nil))))) (lkeep_cons rfl lkeep_nil) (keep_cons rfl keep_nil) rfl ?_ | refine g_keep [0, 5, 7, 8, 9] [3] [3] rfl rfl rfl rfl ?_
            first | exact g_has ⟨(k.finK w.view w.g w.now), setR sl lv w.now q, gn, rfl, rfl, rfl, ⟨hp1, hr3, hsH3, by have hm : max lv gn = gn := (by omega); rw [← hgn] at hF3; rw [show q = gn - lv by omega]; rw [hm] at hF3; exact hF3, by omega⟩⟩ | exact g_has ⟨(k.finK w.view w.g w.now), setR sl lv w.now q, lv, rfl, rfl, rfl, ⟨hp1, hr3, hsH3, by have hm : max lv gn = lv := (by omega); rw [← hgn] at hF3; rw [show q = gn - lv by omega]; rw [hm] at hF3; exact hF3, by omega⟩⟩ | exact g_has ⟨(k.finK w.view w.g w.now), sl, lv, rfl, rfl, rfl, ⟨hp1, hr1, hsH1, hF2, by omega⟩⟩
         ·
          try simp only [NM] at hc79
          refine g_seq (fun K24 hK24 => ?_)
          refine g_region ?_
          refine g_step rfl (s_fieldAddr ty57 fo57_0 ty22 rfl rfl ?_)
          refine g_step rfl (s_val (v_loadl ty22 rfl rfl rfl rfl) rfl rfl ?_)
          refine g_step rfl (s_fieldAddr ty57 fo57_1 ty3 rfl rfl ?_)
          refine g_step rfl (s_val (v_loadl ty3 rfl rfl rfl rfl) rfl rfl ?_)
          refine g_step rfl (s_callp rfl rfl rfl (open_ok w.view w.g _ (by omega)) ?_)
          rintro _ rfl
          refine g_step rfl (s_val (v_not rfl) rfl rfl ?_)
          refine g_nil ?_
          refine g_next hK24 ?_
          refine g_cond rfl (fun hc92 => ?_) (fun hc92 => ?_)
          ·
           try simp only [NM] at hc92
           refine g_seq (fun K25 hK25 => ?_)
           refine g_region ?_
           have hop : openB w.view w.g = false := by simp_all
           have hbn := bars_ne hop (by omega) (by omega)
           have hbl : (barsL w.view w.g).length ≤ 20 := by unfold barsL; rw [List.length_map]; exact Nat.le_trans (List.length_filter_le _ _) hl20
           have hE : k.finE w.view w.g = 9 := by rw [Co.finE, if_neg (by omega), if_neg (by simp_all), if_pos hop]
           have hB : k.finB w.view w.g = barsL w.view w.g := by rw [Co.finB, hE]; rfl
           rw [hE, hB]
           have hF2 := hF.ok9 (now := w.now) (l := w.view) (g := w.g) (by rw [hE]; decide)
           refine g_step rfl (s_fieldAddr ty57 fo57_0 ty22 rfl rfl ?_)
           refine g_step rfl (s_val (v_loadl ty22 rfl rfl rfl rfl) rfl rfl ?_)
           refine g_step rfl (s_fieldAddr ty57 fo57_1 ty3 rfl rfl ?_)
           refine g_step rfl (s_val (v_loadl ty3 rfl rfl rfl rfl) rfl rfl ?_)
           refine g_step rfl (s_callp rfl rfl rfl (bars_ok w.view w.g _ _ rfl (by omega)) ?_)
           rintro _ rfl
           refine g_step rfl (s_val (v_assign rfl) rfl rfl ?_)
           refine g_nil ?_
           refine g_next hK25 ?_
           refine g_seq (fun K26 hK26 => ?_)
           refine g_seq (fun K27 hK27 => ?_)
           refine g_region ?_
           refine g_step rfl (s_val (v_move rfl) rfl rfl ?_)
           refine g_step rfl (s_val (v_neq rfl rfl) rfl rfl ?_)
           refine g_step rfl (s_val (v_move rfl) rfl rfl ?_)
           refine g_split 100 rfl (fun hg100 => ?_) (fun hg100 => ?_)
           · exfalso; (try simp only [NM] at hg100); first | (simp at hg100; done) | exact hg100 rfl | (exfalso; simp_all; done)
           ·
            try simp only [NM] at hg100
            refine g_step_yes (j := 2) (t := 100) rfl rfl rfl rfl (s_val (v_move rfl) rfl rfl ?_)
            refine g_step_yes (j := 2) (t := 100) rfl rfl rfl rfl (s_val (v_len ty27 rfl (by first | rfl | assumption) (by first | exact List.length_map .. | rfl)) rfl rfl ?_)
            refine g_step_yes (j := 2) (t := 100) rfl rfl rfl rfl (s_val (v_move rfl) rfl rfl ?_)
            refine g_step_yes (j := 2) (t := 100) rfl rfl rfl rfl (s_val (v_len ty27 rfl (by first | rfl | assumption) (by first | exact List.length_map .. | rfl)) rfl rfl ?_)
            refine g_step_yes (j := 2) (t := 100) rfl rfl rfl rfl (s_val (v_neq rfl rfl) rfl rfl ?_)
            refine g_step rfl (s_val (v_pick_f rfl rfl) rfl rfl ?_)
            refine g_step rfl (s_val (v_move rfl) rfl rfl ?_)
            refine g_split 107 rfl (fun hg107 => ?_) (fun hg107 => ?_)
            · exfalso; (try simp only [NM] at hg107); first | (simp at hg107; done) | exact hg107 rfl | (exfalso; simp_all; done)
            ·
             try simp only [NM] at hg107
             refine g_step_yes (j := 9) (t := 107) rfl rfl rfl rfl (s_val (v_move rfl) rfl rfl ?_)
             refine g_step_yes (j := 9) (t := 107) rfl rfl rfl rfl (s_val (v_len ty27 rfl (by first | rfl | assumption) (by first | exact List.length_map .. | rfl)) rfl rfl ?_)
             refine g_step_yes (j := 9) (t := 107) rfl rfl rfl rfl (s_val (v_eql rfl rfl) rfl rfl ?_)
             refine g_step rfl (s_val (v_pick_f rfl rfl) rfl rfl ?_)
             refine g_nil ?_
             refine g_next hK27 ?_
             first | refine g_keep [0, 5, 7, 8, 9, 11, 13, 111] [3] [3] (keep_cons rfl (keep_cons rfl (keep_cons rfl (keep_cons rfl (keep_cons rfl (keep_cons rfl (keep_cons rfl (keep_cons rfl keep_nil)))))))) (lkeep_cons rfl lkeep_nil) (keep_cons rfl keep_nil) rfl ?_ | refine g_keep [0, 5, 7, 8, 9, 11, 13, 111] [3] [3] rfl rfl rfl rfl ?_
             refine g_cond rfl (fun hc111 => ?_) (fun hc111 => ?_)
             · exfalso; (try simp only [NM] at hc111); have h9 : ((barsL w.view w.g).map (AV.int .i64)).length = (barsL w.view w.g).length := List.length_map ..; omega
             ·
              try simp only [NM] at hc111
              refine g_skip ?_
              refine g_next hK26 ?_
              refine g_seq (fun K28 hK28 => ?_)
              refine g_region ?_
              refine g_step rfl (s_val (v_assign rfl) rfl rfl ?_)
              refine g_nil ?_
              refine g_next hK28 ?_
              refine g_block ?_
              first | refine g_keep [0, 5, 7, 8, 9, 11, 13, 14] [3] [3] (keep_cons rfl (keep_cons rfl (keep_cons rfl (keep_cons rfl (keep_cons rfl (keep_cons rfl (keep_cons rfl (keep_cons rfl keep_nil)))))))) (lkeep_cons rfl lkeep_nil) (keep_cons rfl keep_nil) rfl ?_ | refine g_keep [0, 5, 7, 8, 9, 11, 13, 14] [3] [3] rfl rfl rfl rfl ?_
              refine g_loop (fun n env L B G => ∃ (q : Nat) , q ≤ (barsL w.view w.g).length ∧ n = (barsL w.view w.g).length - q ∧ env = [(0, .imm (l.map encWn)), (5, .box p 0), (7, .own r34 1 0 4), (8, .int .i64 (lv : Int)), (9, .int .i64 (j : Int)), (11, (.imm ((barsL w.view w.g).map (.int .i64)))), (13, (.imm ((barsL w.view w.g).map (.int .i64)))), (14, .int .i64 (q : Int))] ∧ L = [(3, 3, 0)] ∧ B = [(3, (encSp s))] ∧ G p = some (.box (encCo (k.finK w.view w.g w.now))) ∧ G r34 = some (.row 1 (sl.map (.int .i64))) ∧ H.sub G) ((barsL w.view w.g).length) ⟨0, Nat.zero_le _, rfl, rfl, rfl, rfl, ⟨hp1, hr1, hsH1⟩⟩ (fun n env L B G hI => ?_)
              obtain ⟨q, hq, rfl, rfl, rfl, rfl, hp1, hr1, hsH1⟩ := hI
              refine g_seq (fun K29 hK29 => ?_)
              refine g_seq (fun K30 hK30 => ?_)
              refine g_region ?_
              refine g_step rfl (s_val (v_move rfl) rfl rfl ?_)
              refine g_step rfl (s_val (v_move rfl) rfl rfl ?_)
              refine g_step rfl (s_val (v_len ty27 rfl (by first | rfl | assumption) (by first | exact List.length_map .. | rfl)) rfl rfl ?_)
              refine g_step rfl (s_val (v_lss rfl rfl) rfl rfl ?_)
              refine g_nil ?_
              refine g_next hK30 ?_
              refine g_cond rfl (fun hc115 => ?_) (fun hc115 => ?_)
              ·
               try simp only [NM] at hc115
               obtain ⟨y, hy⟩ := get_some (l := (barsL w.view w.g)) (k := q) (by omega)
               refine g_skip ?_
               refine g_next hK29 ?_
               refine g_seq (fun K31 hK31 => ?_)
               refine g_block ?_
               refine g_seq (fun K32 hK32 => ?_)
               refine g_draw (n := 9) (fun j => !([] : List Nat).contains j) rfl rfl ?_
               refine m_tk 0 false rfl rfl (by kernel_rfl) (v_move rfl) rfl rfl ?_
               refine m_tk 1 false rfl rfl (by kernel_rfl) (v_move rfl) rfl rfl ?_
               refine m_tk 2 false rfl rfl (by kernel_rfl) (v_indexAddr ty27 ty3 rfl rfl (by first | rfl | assumption) (by first | rfl | exact (rfl : (0 : Int) = ((0 : Nat) : Int)) | exact (Int.toNat_of_nonneg (by omega)).symm) (map_get hy) rfl) rfl rfl ?_
               refine m_tk 3 true rfl rfl (by kernel_rfl) (by first | exact v_load ty3 rfl rfl (by first | rfl | assumption) (map_get hy) rfl | exact v_load_box ty3 rfl rfl (by assumption) rfl) rfl rfl ?_
               refine m_tk 4 false rfl rfl (by kernel_rfl) (v_move rfl) rfl rfl ?_
               refine m_tk 5 false rfl rfl (by kernel_rfl) (v_move rfl) rfl rfl ?_
               refine m_tk 6 false rfl rfl (by kernel_rfl) (v_indexAddr ty27 ty3 rfl rfl (by first | rfl | assumption) (by first | rfl | exact (rfl : (0 : Int) = ((0 : Nat) : Int)) | exact (Int.toNat_of_nonneg (by omega)).symm) (map_get hy) rfl) rfl rfl ?_
               refine m_tk 7 true rfl rfl (by kernel_rfl) (by first | exact v_load ty3 rfl rfl (by first | rfl | assumption) (map_get hy) rfl | exact v_load_box ty3 rfl rfl (by assumption) rfl) rfl rfl ?_
               refine m_tk 8 false rfl rfl (by kernel_rfl) (v_neq rfl rfl) rfl rfl ?_
               refine m_done (by kernel_rfl) ?_
               refine g_next hK32 ?_
               refine g_cond rfl (fun hc126 => ?_) (fun hc126 => ?_)
               · exfalso; (try simp only [NM] at hc126); first | (simp at hc126; done) | exact hc126 rfl | (exfalso; simp_all; done)
               ·
                try simp only [NM] at hc126
                refine g_skip ?_
                refine g_block_normal ?_
                refine g_next hK31 ?_
                refine g_region ?_
                refine g_step rfl (s_val (v_move rfl) rfl rfl ?_)
                refine g_step rfl (s_val (v_add rfl rfl (by omega)) rfl rfl ?_)
                refine g_step rfl (s_val (v_assign rfl) rfl rfl ?_)
                refine g_nil ?_
                first | refine g_keep [0, 5, 7, 8, 9, 11, 13, 14] [3] [3] (keep_cons rfl (keep_cons rfl (keep_cons rfl (keep_cons rfl (keep_cons rfl (keep_cons rfl (keep_cons rfl (keep_cons rfl keep_nil)))))))) (lkeep_cons rfl lkeep_nil) (keep_cons rfl keep_nil) rfl ?_ | refine g_keep [0, 5, 7, 8, 9, 11, 13, 14] [3] [3] rfl rfl rfl rfl ?_
                exact g_round _ (by omega) ⟨q + 1, by omega, rfl, rfl, rfl, rfl, ⟨hp1, hr1, hsH1⟩⟩
              ·
               try simp only [NM] at hc115
               obtain rfl : q = (barsL w.view w.g).length := by omega
               refine g_exit ?_
               refine g_then_exit ?_
               refine g_then_exit ?_
               refine g_block_same ?_
               first | refine g_keep [0, 5, 7, 8, 9] [3] [3] (keep_cons rfl (keep_cons rfl (keep_cons rfl (keep_cons rfl (keep_cons rfl keep_nil))))) (lkeep_cons rfl lkeep_nil) (keep_cons rfl keep_nil) rfl ?_ | refine g_keep [0, 5, 7, 8, 9] [3] [3] rfl rfl rfl rfl ?_
               first | exact g_has ⟨(k.finK w.view w.g w.now), setR sl lv w.now q, gn, rfl, rfl, rfl, ⟨hp1, hr3, hsH3, by have hm : max lv gn = gn := (by omega); rw [← hgn] at hF3; rw [show q = gn - lv by omega]; rw [hm] at hF3; exact hF3, by omega⟩⟩ | exact g_has ⟨(k.finK w.view w.g w.now), setR sl lv w.now q, lv, rfl, rfl, rfl, ⟨hp1, hr3, hsH3, by have hm : max lv gn = lv := (by omega); rw [← hgn] at hF3; rw [show q = gn - lv by omega]; rw [hm] at hF3; exact hF3, by omega⟩⟩ | exact g_has ⟨(k.finK w.view w.g w.now), sl, lv, rfl, rfl, rfl, ⟨hp1, hr1, hsH1, hF2, by omega⟩⟩
          ·
           try simp only [NM] at hc92
           refine g_seq (fun K33 hK33 => ?_)
           refine g_seq (fun K34 hK34 => ?_)
           refine g_region ?_
           have hop : openB w.view w.g = true := by simp_all
           have hE : k.finE w.view w.g = 0 := by rw [Co.finE, if_neg (by omega), if_neg (by simp_all), if_neg (by simp_all)]
           have hB : k.finB w.view w.g = [] := by rw [Co.finB, hE]; rfl
           rw [hE, hB]
           obtain ⟨gn, hgn⟩ := Int.eq_ofNat_of_zero_le (a := w.g) (by omega)
           have hF3 := hF.ok0 (now := w.now) (l := w.view) (n := gn) (by omega) (by rw [← hgn]; exact hE)
           refine g_step rfl (s_val (v_move rfl) rfl rfl ?_)
           refine g_step rfl (s_val (v_len ty27 rfl (by first | rfl | assumption) (by first | exact List.length_map .. | rfl)) rfl rfl ?_)
           refine g_step rfl (s_val (v_neq rfl rfl) rfl rfl ?_)
           refine g_step rfl (s_val (v_move rfl) rfl rfl ?_)
           refine g_split 130 rfl (fun hg130 => ?_) (fun hg130 => ?_)
           · exfalso; (try simp only [NM] at hg130); first | (simp at hg130; done) | exact hg130 rfl | (exfalso; simp_all; done)
           ·
            try simp only [NM] at hg130
            refine g_step_yes (j := 3) (t := 130) rfl rfl rfl rfl (s_val (v_move rfl) rfl rfl ?_)
            refine g_step_yes (j := 3) (t := 130) rfl rfl rfl rfl (s_val (v_neq rfl rfl) rfl rfl ?_)
            refine g_step rfl (s_val (v_pick_f rfl rfl) rfl rfl ?_)
            refine g_nil ?_
            refine g_next hK34 ?_
            first | refine g_keep [0, 5, 7, 8, 9, 133] [3, 10] [3, 10] (keep_cons rfl (keep_cons rfl (keep_cons rfl (keep_cons rfl (keep_cons rfl (keep_cons rfl keep_nil)))))) (lkeep_cons rfl (lkeep_cons rfl lkeep_nil)) (keep_cons rfl (keep_cons rfl keep_nil)) rfl ?_ | refine g_keep [0, 5, 7, 8, 9, 133] [3, 10] [3, 10] rfl rfl rfl rfl ?_
            refine g_cond rfl (fun hc133 => ?_) (fun hc133 => ?_)
            · exfalso; (try simp only [NM] at hc133); first | (simp at hc133; done) | exact hc133 rfl | (exfalso; simp_all; done)
            ·
             try simp only [NM] at hc133
             refine g_skip ?_
             refine g_next hK33 ?_
             refine g_seq (fun K35 hK35 => ?_)
             refine g_seq (fun K36 hK36 => ?_)
             refine g_region ?_
             refine g_step rfl (s_val (v_move rfl) rfl rfl ?_)
             refine g_step rfl (s_val (v_add rfl rfl (by omega)) rfl rfl ?_)
             refine g_step rfl (s_val (v_assign rfl) rfl rfl ?_)
             refine g_nil ?_
             refine g_next hK36 ?_
             refine g_block ?_
             first | refine g_keep [0, 5, 7, 8, 9, 15] [3, 10] [3, 10] (keep_cons rfl (keep_cons rfl (keep_cons rfl (keep_cons rfl (keep_cons rfl (keep_cons rfl keep_nil)))))) (lkeep_cons rfl (lkeep_cons rfl lkeep_nil)) (keep_cons rfl (keep_cons rfl keep_nil)) rfl ?_ | refine g_keep [0, 5, 7, 8, 9, 15] [3, 10] [3, 10] rfl rfl rfl rfl ?_
             refine g_loop (fun n env L B G => ∃ (q : Nat) (v : Int), q ≤ (gn - lv) ∧ n = (gn - lv) - q ∧ env = [(0, .imm (l.map encWn)), (5, .box p 0), (7, .own r34 1 0 4), (8, .int .i64 (lv : Int)), (9, .int .i64 (j : Int)), (15, .int .i64 v)] ∧ L = [(3, 3, 0), (10, 10, 0)] ∧ B = [(3, (encSp s)), (10, (encWn w))] ∧ v = (lv : Int) + 1 + q ∧ G p = some (.box (encCo (k.finK w.view w.g w.now))) ∧ G r34 = some (.row 1 ((setR sl lv w.now q).map (.int .i64))) ∧ H.sub G) ((gn - lv)) ⟨0, ((lv : Int) + 1), Nat.zero_le _, rfl, rfl, rfl, rfl, ⟨by simp, hp1, hr1, hsH1⟩⟩ (fun n env L B G hI => ?_)
             obtain ⟨q, v, hq, rfl, rfl, rfl, rfl, hv, hp1, hr3, hsH3⟩ := hI
             have hslq := setR_len sl lv w.now q
             refine g_seq (fun K37 hK37 => ?_)
             refine g_seq (fun K38 hK38 => ?_)
             refine g_region ?_
             refine g_step rfl (s_val (v_move rfl) rfl rfl ?_)
             refine g_step rfl (s_fieldAddr ty57 fo57_1 ty3 rfl rfl ?_)
             refine g_step rfl (s_val (v_loadl ty3 rfl rfl rfl rfl) rfl rfl ?_)
             refine g_step rfl (s_val (v_leq rfl rfl) rfl rfl ?_)
             refine g_nil ?_
             refine g_next hK38 ?_
             refine g_cond rfl (fun hc139 => ?_) (fun hc139 => ?_)
             ·
              try simp only [NM] at hc139
              obtain ⟨o9, ho9⟩ := get_some (l := (setR sl lv w.now q)) (k := lv + 1 + q) (by omega)
              have hv9 : v = ((lv + 1 + q : Nat) : Int) := by omega
              have hV3 : (AV.own r34 1 0 4).view _ = some ((setR sl lv w.now q).map (.int .i64)) := AV.view_own_all hr3 (by rw [List.length_map, hslq, hsl])
              refine g_skip ?_
              refine g_next hK37 ?_
              refine g_seq (fun K39 hK39 => ?_)
              refine g_block ?_
              refine g_region ?_
              refine g_step rfl (s_val (v_move rfl) rfl rfl ?_)
              refine g_step rfl (s_val (v_move rfl) rfl rfl ?_)
              refine g_step rfl (s_fieldAddr ty57 fo57_2 ty3 rfl rfl ?_)
              refine g_step rfl (s_val (v_loadl ty3 rfl rfl rfl rfl) rfl rfl ?_)
              refine g_step rfl (s_val (v_indexAddr ty27 ty3 rfl rfl hV3 hv9 (map_get ho9) rfl) rfl rfl ?_)
              refine g_step rfl (s_store_row (k := lv + 1 + q) (off := 0) (old := .int .i64 o9) (new := .int .i64 w.now) ty3 rfl rfl hr3 (by rw [Nat.zero_add]; exact map_get ho9) rfl rfl rfl rfl (.inr hw34) ?_)
              rw [show (0 + (lv + 1 + q) : Nat) = lv + 1 + q from Nat.zero_add _, set_map_s, show (setR sl lv w.now q).set (lv + 1 + q) w.now = (setR sl lv w.now (q + 1)) from rfl]
              refine g_nil ?_
              refine g_block_normal ?_
              refine g_next hK39 ?_
              refine g_region ?_
              refine g_step rfl (s_val (v_move rfl) rfl rfl ?_)
              refine g_step rfl (s_val (v_add rfl rfl (by omega)) rfl rfl ?_)
              refine g_step rfl (s_val (v_assign rfl) rfl rfl ?_)
              refine g_nil ?_
              first | refine g_keep [0, 5, 7, 8, 9, 15] [3, 10] [3, 10] (keep_cons rfl (keep_cons rfl (keep_cons rfl (keep_cons rfl (keep_cons rfl (keep_cons rfl keep_nil)))))) (lkeep_cons rfl (lkeep_cons rfl lkeep_nil)) (keep_cons rfl (keep_cons rfl keep_nil)) rfl ?_ | refine g_keep [0, 5, 7, 8, 9, 15] [3, 10] [3, 10] rfl rfl rfl rfl ?_
              exact g_round _ (by omega) ⟨q + 1, _, by omega, rfl, rfl, rfl, rfl, ⟨by omega, (AHeap.get_set_ne _ _ hpr34).trans hp1, AHeap.get_set _ _ _, sub_set' hsH3 (hw0 _ hw34)⟩⟩
             ·
              try simp only [NM] at hc139
              refine g_exit ?_
              refine g_then_exit ?_
              refine g_then_exit ?_
              refine g_block_same ?_
              refine g_next hK35 ?_
              refine g_seq (fun K40 hK40 => ?_)
              refine g_region ?_
              refine g_step rfl (s_fieldAddr ty57 fo57_1 ty3 rfl rfl ?_)
              refine g_step rfl (s_val (v_loadl ty3 rfl rfl rfl rfl) rfl rfl ?_)
              refine g_step rfl (s_val (v_move rfl) rfl rfl ?_)
              refine g_step rfl (s_val (v_gtr rfl rfl) rfl rfl ?_)
              refine g_nil ?_
              refine g_next hK40 ?_
              refine g_cond rfl (fun hc150 => ?_) (fun hc150 => ?_)
              ·
               try simp only [NM] at hc150
               refine g_region ?_
               refine g_step rfl (s_fieldAddr ty57 fo57_1 ty3 rfl rfl ?_)
               refine g_step rfl (s_val (v_loadl ty3 rfl rfl rfl rfl) rfl rfl ?_)
               refine g_step rfl (s_val (v_assign rfl) rfl rfl ?_)
               refine g_nil ?_
               rw [hgn]
               first | refine g_keep [0, 5, 7, 8, 9] [3] [3] (keep_cons rfl (keep_cons rfl (keep_cons rfl (keep_cons rfl (keep_cons rfl keep_nil))))) (lkeep_cons rfl lkeep_nil) (keep_cons rfl keep_nil) rfl ?_ | refine g_keep [0, 5, 7, 8, 9] [3] [3] rfl rfl rfl rfl ?_
               first | exact g_has ⟨(k.finK w.view w.g w.now), setR sl lv w.now q, gn, rfl, rfl, rfl, ⟨hp1, hr3, hsH3, by have hm : max lv gn = gn := (by omega); rw [← hgn] at hF3; rw [show q = gn - lv by omega]; rw [hm] at hF3; exact hF3, by omega⟩⟩ | exact g_has ⟨(k.finK w.view w.g w.now), setR sl lv w.now q, lv, rfl, rfl, rfl, ⟨hp1, hr3, hsH3, by have hm : max lv gn = lv := (by omega); rw [← hgn] at hF3; rw [show q = gn - lv by omega]; rw [hm] at hF3; exact hF3, by omega⟩⟩ | exact g_has ⟨(k.finK w.view w.g w.now), sl, lv, rfl, rfl, rfl, ⟨hp1, hr1, hsH1, hF2, by omega⟩⟩
              ·
               try simp only [NM] at hc150
               refine g_skip ?_
               first | refine g_keep [0, 5, 7, 8, 9] [3] [3] (keep_cons rfl (keep_cons rfl (keep_cons rfl (keep_cons rfl (keep_cons rfl keep_nil))))) (lkeep_cons rfl lkeep_nil) (keep_cons rfl keep_nil) rfl ?_ | refine g_keep [0, 5, 7, 8, 9] [3] [3] rfl rfl rfl rfl ?_
               first | exact g_has ⟨(k.finK w.view w.g w.now), setR sl lv w.now q, gn, rfl, rfl, rfl, ⟨hp1, hr3, hsH3, by have hm : max lv gn = gn := (by omega); rw [← hgn] at hF3; rw [show q = gn - lv by omega]; rw [hm] at hF3; exact hF3, by omega⟩⟩ | exact g_has ⟨(k.finK w.view w.g w.now), setR sl lv w.now q, lv, rfl, rfl, rfl, ⟨hp1, hr3, hsH3, by have hm : max lv gn = lv := (by omega); rw [← hgn] at hF3; rw [show q = gn - lv by omega]; rw [hm] at hF3; exact hF3, by omega⟩⟩ | exact g_has ⟨(k.finK w.view w.g w.now), sl, lv, rfl, rfl, rfl, ⟨hp1, hr1, hsH1, hF2, by omega⟩⟩
      ·
       obtain ⟨k2, sl2, lv2, rfl, rfl, rfl, hp2, hr2, hsH2, hF2, hak2⟩ := hI
       have hlev := hF2.level
       have hsl2 := hF2.len
       have hle2 := hF2.le
       have hV2 : (AV.own r34 1 0 4).view _ = some (sl2.map (.int .i64)) := AV.view_own_all hr2 (by rw [List.length_map, hsl2])
       refine g_seq (fun K41 hK41 => ?_)
       refine g_seq (fun K42 hK42 => ?_)
       refine g_region ?_
       refine g_step rfl (s_val (v_move rfl) rfl rfl ?_)
       refine g_step rfl (s_callp rfl rfl rfl (cAsked_ok p k2 _ hp2) ?_)
       rintro _ rfl
       refine g_step rfl (s_val (v_move rfl) rfl rfl ?_)
       refine g_step rfl (s_val (v_add rfl rfl (by omega)) rfl rfl ?_)
       refine g_step rfl (s_val (v_neq rfl rfl) rfl rfl ?_)
       refine g_step rfl (s_val (v_move rfl) rfl rfl ?_)
       refine g_split 158 rfl (fun hg158 => ?_) (fun hg158 => ?_)
       · exfalso; (try simp only [NM] at hg158); omega
       ·
        try simp only [NM] at hg158
        refine g_step_yes (j := 5) (t := 158) rfl rfl rfl rfl (s_val (v_move rfl) rfl rfl ?_)
        refine g_step_yes (j := 5) (t := 158) rfl rfl rfl rfl (s_callp rfl rfl rfl (cLevel_ok p k2 _ hp2) ?_)
        rintro _ rfl
        refine g_step_yes (j := 5) (t := 158) rfl rfl rfl rfl (s_val (v_move rfl) rfl rfl ?_)
        refine g_step_yes (j := 5) (t := 158) rfl rfl rfl rfl (s_val (v_neq rfl rfl) rfl rfl ?_)
        refine g_step rfl (s_val (v_pick_f rfl rfl) rfl rfl ?_)
        refine g_nil ?_
        refine g_next hK42 ?_
        refine g_cond rfl (fun hc163 => ?_) (fun hc163 => ?_)
        · exfalso; (try simp only [NM] at hc163); omega
        ·
         try simp only [NM] at hc163
         refine g_skip ?_
         refine g_next hK41 ?_
         refine g_seq (fun K43 hK43 => ?_)
         refine g_region ?_
         refine g_step rfl (s_val (v_assign rfl) rfl rfl ?_)
         refine g_nil ?_
         refine g_next hK43 ?_
         refine g_block ?_
         first | refine g_keep [0, 5, 7, 8, 9, 16] [3] [3] (keep_cons rfl (keep_cons rfl (keep_cons rfl (keep_cons rfl (keep_cons rfl (keep_cons rfl keep_nil)))))) (lkeep_cons rfl lkeep_nil) (keep_cons rfl keep_nil) rfl ?_ | refine g_keep [0, 5, 7, 8, 9, 16] [3] [3] rfl rfl rfl rfl ?_
         refine g_loop (fun n env L B G => ∃ (q : Nat) (v : Int), q ≤ 5 ∧ n = 5 - q ∧ env = [(0, (.imm (l.map encWn))), (5, .box p 0), (7, .own r34 1 0 4), (8, .int .i64 (lv2 : Int)), (9, .int .i64 (j : Int)), (16, .int .i64 v)] ∧ L = [(3, 3, 0)] ∧ B = [(3, (encSp s))] ∧ v = (q : Int) ∧ G p = some (.box (encCo k2)) ∧ G r34 = some (.row 1 (sl2.map (.int .i64))) ∧ H.sub G) (5) ⟨0, 0, Nat.zero_le _, rfl, rfl, rfl, rfl, ⟨rfl, hp2, hr2, hsH2⟩⟩ (fun n env L B G hI => ?_)
         obtain ⟨q, v, hq, rfl, rfl, rfl, rfl, hv, hp2, hr2, hsH2⟩ := hI
         have hV4 : (AV.own r34 1 0 4).view _ = some (sl2.map (.int .i64)) := AV.view_own_all hr2 (by rw [List.length_map, hsl2])
         refine g_seq (fun K44 hK44 => ?_)
         refine g_seq (fun K45 hK45 => ?_)
         refine g_region ?_
         refine g_step rfl (s_val (v_move rfl) rfl rfl ?_)
         refine g_step rfl (s_val (v_leq rfl rfl) rfl rfl ?_)
         refine g_nil ?_
         refine g_next hK45 ?_
         refine g_cond rfl (fun hc165 => ?_) (fun hc165 => ?_)
         ·
          try simp only [NM] at hc165
          refine g_skip ?_
          refine g_next hK44 ?_
          refine g_seq (fun K46 hK46 => ?_)
          refine g_block ?_
          refine g_seq (fun K47 hK47 => ?_)
          refine g_region ?_
          refine g_step rfl (s_val (v_move rfl) rfl rfl ?_)
          refine g_step rfl (s_val (v_move rfl) rfl rfl ?_)
          refine g_step rfl (s_callp rfl rfl rfl (cAt_ok p k2 v _ hp2) ?_)
          rintro _ rfl
          refine g_step rfl (s_val (v_move rfl) rfl rfl ?_)
          refine g_step rfl (s_val (v_extract rfl rfl) rfl rfl ?_)
          refine g_step rfl (s_val (v_extract rfl rfl) rfl rfl ?_)
          refine g_step rfl (s_val (v_assign rfl) rfl rfl ?_)
          refine g_step rfl (s_val (v_assign rfl) rfl rfl ?_)
          refine g_nil ?_
          refine g_next hK47 ?_
          refine g_seq (fun K48 hK48 => ?_)
          refine g_region ?_
          refine g_step rfl (s_val (v_move rfl) rfl rfl ?_)
          refine g_step rfl (s_val (v_geq rfl rfl) rfl rfl ?_)
          refine g_step rfl (s_val (v_move rfl) rfl rfl ?_)
          refine g_split 176 rfl (fun hg176 => ?_) (fun hg176 => ?_)
          ·
           try simp only [NM] at hg176
           refine g_step_yes (j := 2) (t := 176) rfl rfl rfl rfl (s_val (v_move rfl) rfl rfl ?_)
           refine g_step_yes (j := 2) (t := 176) rfl rfl rfl rfl (s_val (v_move rfl) rfl rfl ?_)
           refine g_step_yes (j := 2) (t := 176) rfl rfl rfl rfl (s_val (v_leq rfl rfl) rfl rfl ?_)
           refine g_step rfl (s_val (v_pick_t rfl rfl) rfl rfl ?_)
           refine g_nil ?_
           refine g_next hK48 ?_
           refine g_cond rfl (fun hc180 => ?_) (fun hc180 => ?_)
           ·
            try simp only [NM] at hc180
            refine g_seq (fun K49 hK49 => ?_)
            refine g_region ?_
            obtain ⟨x9, hx9, hat9⟩ := hF2.at_yes hv (by omega) (by omega)
            rw [hat9]
            refine g_step rfl (s_val (v_move rfl) rfl rfl ?_)
            refine g_step rfl (s_val (v_not rfl) rfl rfl ?_)
            refine g_step rfl (s_val (v_move rfl) rfl rfl ?_)
            refine g_split 183 rfl (fun hg183 => ?_) (fun hg183 => ?_)
            · exfalso; (try simp only [NM] at hg183); first | (simp at hg183; done) | exact hg183 rfl | (exfalso; simp_all; done)
            ·
             try simp only [NM] at hg183
             refine g_step_yes (j := 2) (t := 183) rfl rfl rfl rfl (s_val (v_move rfl) rfl rfl ?_)
             refine g_step_yes (j := 2) (t := 183) rfl rfl rfl rfl (s_val (v_move rfl) rfl rfl ?_)
             refine g_step_yes (j := 2) (t := 183) rfl rfl rfl rfl (s_val (v_move rfl) rfl rfl ?_)
             refine g_step_yes (j := 2) (t := 183) rfl rfl rfl rfl (s_val (v_indexAddr ty27 ty3 rfl rfl hV4 hv (map_get hx9) rfl) rfl rfl ?_)
             refine g_step_yes (j := 2) (t := 183) rfl rfl rfl rfl (s_val (by first | exact v_load ty3 rfl rfl hV4 (map_get hx9) rfl | exact v_load_box ty3 rfl rfl (by assumption) rfl) rfl rfl ?_)
             refine g_step_yes (j := 2) (t := 183) rfl rfl rfl rfl (s_val (v_neq rfl rfl) rfl rfl ?_)
             refine g_step rfl (s_val (v_pick_f rfl rfl) rfl rfl ?_)
             refine g_nil ?_
             refine g_next hK49 ?_
             first | refine g_keep [0, 5, 7, 8, 9, 16, 190] [3] [3] (keep_cons rfl (keep_cons rfl (keep_cons rfl (keep_cons rfl (keep_cons rfl (keep_cons rfl (keep_cons rfl keep_nil))))))) (lkeep_cons rfl lkeep_nil) (keep_cons rfl keep_nil) rfl ?_ | refine g_keep [0, 5, 7, 8, 9, 16, 190] [3] [3] rfl rfl rfl rfl ?_
             refine g_cond rfl (fun hc190 => ?_) (fun hc190 => ?_)
             · exfalso; (try simp only [NM] at hc190); first | (simp at hc190; done) | exact hc190 rfl | (exfalso; simp_all; done)
             ·
              try simp only [NM] at hc190
              refine g_skip ?_
              refine g_block_normal ?_
              refine g_next hK46 ?_
              refine g_region ?_
              refine g_step rfl (s_val (v_move rfl) rfl rfl ?_)
              refine g_step rfl (s_val (v_add rfl rfl (by omega)) rfl rfl ?_)
              refine g_step rfl (s_val (v_assign rfl) rfl rfl ?_)
              refine g_nil ?_
              first | refine g_keep [0, 5, 7, 8, 9, 16] [3] [3] (keep_cons rfl (keep_cons rfl (keep_cons rfl (keep_cons rfl (keep_cons rfl (keep_cons rfl keep_nil)))))) (lkeep_cons rfl lkeep_nil) (keep_cons rfl keep_nil) rfl ?_ | refine g_keep [0, 5, 7, 8, 9, 16] [3] [3] rfl rfl rfl rfl ?_
              exact g_round _ (by omega) ⟨q + 1, _, by omega, rfl, rfl, rfl, rfl, ⟨by omega, hp2, hr2, hsH2⟩⟩
           ·
            try simp only [NM] at hc180
            refine g_seq (fun K50 hK50 => ?_)
            refine g_region ?_
            have hat9 := hF2.at_no (v := v) (by omega)
            rw [hat9]
            refine g_step rfl (s_val (v_move rfl) rfl rfl ?_)
            refine g_step rfl (s_val (v_move rfl) rfl rfl ?_)
            refine g_split 192 rfl (fun hg192 => ?_) (fun hg192 => ?_)
            · exfalso; (try simp only [NM] at hg192); first | (simp at hg192; done) | exact hg192 rfl | (exfalso; simp_all; done)
            ·
             try simp only [NM] at hg192
             refine g_step_yes (j := 1) (t := 192) rfl rfl rfl rfl (s_val (v_move rfl) rfl rfl ?_)
             refine g_step_yes (j := 1) (t := 192) rfl rfl rfl rfl (s_val (v_neq rfl rfl) rfl rfl ?_)
             refine g_step rfl (s_val (v_pick_f rfl rfl) rfl rfl ?_)
             refine g_nil ?_
             refine g_next hK50 ?_
             first | refine g_keep [0, 5, 7, 8, 9, 16, 195] [3] [3] (keep_cons rfl (keep_cons rfl (keep_cons rfl (keep_cons rfl (keep_cons rfl (keep_cons rfl (keep_cons rfl keep_nil))))))) (lkeep_cons rfl lkeep_nil) (keep_cons rfl keep_nil) rfl ?_ | refine g_keep [0, 5, 7, 8, 9, 16, 195] [3] [3] rfl rfl rfl rfl ?_
             refine g_cond rfl (fun hc195 => ?_) (fun hc195 => ?_)
             · exfalso; (try simp only [NM] at hc195); first | (simp at hc195; done) | exact hc195 rfl | (exfalso; simp_all; done)
             ·
              try simp only [NM] at hc195
              refine g_skip ?_
              refine g_block_normal ?_
              refine g_next hK46 ?_
              refine g_region ?_
              refine g_step rfl (s_val (v_move rfl) rfl rfl ?_)
              refine g_step rfl (s_val (v_add rfl rfl (by omega)) rfl rfl ?_)
              refine g_step rfl (s_val (v_assign rfl) rfl rfl ?_)
              refine g_nil ?_
              first | refine g_keep [0, 5, 7, 8, 9, 16] [3] [3] (keep_cons rfl (keep_cons rfl (keep_cons rfl (keep_cons rfl (keep_cons rfl (keep_cons rfl keep_nil)))))) (lkeep_cons rfl lkeep_nil) (keep_cons rfl keep_nil) rfl ?_ | refine g_keep [0, 5, 7, 8, 9, 16] [3] [3] rfl rfl rfl rfl ?_
              exact g_round _ (by omega) ⟨q + 1, _, by omega, rfl, rfl, rfl, rfl, ⟨by omega, hp2, hr2, hsH2⟩⟩
          ·
           try simp only [NM] at hg176
           refine g_step_no (j := 2) (t := 176) rfl rfl rfl rfl rfl rfl rfl ?_
           refine g_step_no (j := 2) (t := 176) rfl rfl rfl rfl rfl rfl rfl ?_
           refine g_step_no (j := 2) (t := 176) rfl rfl rfl rfl rfl rfl rfl ?_
           refine g_step rfl (s_val (v_pick_f rfl rfl) rfl rfl ?_)
           refine g_nil ?_
           refine g_next hK48 ?_
           refine g_cond rfl (fun h => by cases h) (fun _ => ?_)
           refine g_seq (fun K51 hK51 => ?_)
           refine g_region ?_
           have hat9 := hF2.at_no (v := v) (by omega)
           rw [hat9]
           refine g_step rfl (s_val (v_move rfl) rfl rfl ?_)
           refine g_step rfl (s_val (v_move rfl) rfl rfl ?_)
           refine g_split 192 rfl (fun hg192 => ?_) (fun hg192 => ?_)
           · exfalso; (try simp only [NM] at hg192); first | (simp at hg192; done) | exact hg192 rfl | (exfalso; simp_all; done)
           ·
            try simp only [NM] at hg192
            refine g_step_yes (j := 1) (t := 192) rfl rfl rfl rfl (s_val (v_move rfl) rfl rfl ?_)
            refine g_step_yes (j := 1) (t := 192) rfl rfl rfl rfl (s_val (v_neq rfl rfl) rfl rfl ?_)
            refine g_step rfl (s_val (v_pick_f rfl rfl) rfl rfl ?_)
            refine g_nil ?_
            refine g_next hK51 ?_
            first | refine g_keep [0, 5, 7, 8, 9, 16, 195] [3] [3] (keep_cons rfl (keep_cons rfl (keep_cons rfl (keep_cons rfl (keep_cons rfl (keep_cons rfl (keep_cons rfl keep_nil))))))) (lkeep_cons rfl lkeep_nil) (keep_cons rfl keep_nil) rfl ?_ | refine g_keep [0, 5, 7, 8, 9, 16, 195] [3] [3] rfl rfl rfl rfl ?_
            refine g_cond rfl (fun hc195 => ?_) (fun hc195 => ?_)
            · exfalso; (try simp only [NM] at hc195); first | (simp at hc195; done) | exact hc195 rfl | (exfalso; simp_all; done)
            ·
             try simp only [NM] at hc195
             refine g_skip ?_
             refine g_block_normal ?_
             refine g_next hK46 ?_
             refine g_region ?_
             refine g_step rfl (s_val (v_move rfl) rfl rfl ?_)
             refine g_step rfl (s_val (v_add rfl rfl (by omega)) rfl rfl ?_)
             refine g_step rfl (s_val (v_assign rfl) rfl rfl ?_)
             refine g_nil ?_
             first | refine g_keep [0, 5, 7, 8, 9, 16] [3] [3] (keep_cons rfl (keep_cons rfl (keep_cons rfl (keep_cons rfl (keep_cons rfl (keep_cons rfl keep_nil)))))) (lkeep_cons rfl lkeep_nil) (keep_cons rfl keep_nil) rfl ?_ | refine g_keep [0, 5, 7, 8, 9, 16] [3] [3] rfl rfl rfl rfl ?_
             exact g_round _ (by omega) ⟨q + 1, _, by omega, rfl, rfl, rfl, rfl, ⟨by omega, hp2, hr2, hsH2⟩⟩
         ·
          try simp only [NM] at hc165
          refine g_exit ?_
          refine g_then_exit ?_
          refine g_then_exit ?_
          refine g_block_same ?_
          refine g_block_normal ?_
          refine g_next hK13 ?_
          refine g_region ?_
          refine g_step rfl (s_val (v_move rfl) rfl rfl ?_)
          refine g_step rfl (s_val (v_add rfl rfl (by omega)) rfl rfl ?_)
          refine g_step rfl (s_val (v_assign rfl) rfl rfl ?_)
          refine g_nil ?_
          first | refine g_keep [0, 5, 7, 8, 9] [3] [3] (keep_cons rfl (keep_cons rfl (keep_cons rfl (keep_cons rfl (keep_cons rfl keep_nil))))) (lkeep_cons rfl lkeep_nil) (keep_cons rfl keep_nil) rfl ?_ | refine g_keep [0, 5, 7, 8, 9] [3] [3] rfl rfl rfl rfl ?_
          exact g_round _ (by omega) ⟨j + 1, k2, sl2, lv2, by omega, rfl, rfl, rfl, rfl, ⟨hp2, hr2, hsH2, hF2, by omega⟩⟩
    ·
     try simp only [NM] at hc38
     obtain rfl : j = l.length := by omega
     refine g_exit ?_
     refine g_then_exit ?_
     refine g_then_exit ?_
     refine g_block_same ?_
     refine g_next hK9 ?_
     refine g_seq (fun K52 hK52 => ?_)
     refine g_draw (n := 16) (fun j => !([] : List Nat).contains j) rfl rfl ?_
     have hlev := hF.level
     refine m_tk 0 false rfl rfl (by kernel_rfl) (v_move rfl) rfl rfl ?_
     refine m_tk 1 true rfl rfl (by kernel_rfl) (by first | exact v_loadl_all ty24 rfl rfl rfl rfl rfl | exact v_loadl_part (cs := [_, _]) ty24 rfl rfl rfl rfl rfl rfl) rfl rfl ?_
     refine m_tk 3 true rfl rfl (by kernel_rfl) (by first | exact v_loadl_all ty24 rfl rfl rfl rfl rfl | exact v_loadl_part (cs := [_, _]) ty24 rfl rfl rfl rfl rfl rfl) rfl rfl ?_
     refine m_one 2 (by kernel_rfl) rfl rfl ?_
     refine sm_callp rfl rfl rfl (cAdmits_ok p k s _ hp) ?_
     rintro _ rfl
     refine m_one 4 (by kernel_rfl) rfl rfl ?_
     refine sm_callp rfl rfl rfl (spValid_ok s _) ?_
     rintro _ rfl
     refine m_tk 5 false rfl rfl (by kernel_rfl) (v_move rfl) rfl rfl ?_
     refine m_split 201 rfl (fun hg201 => ?_) (fun hg201 => ?_)
     ·
      try simp only [NM] at hg201
      refine m_takel_yes (j := 5) (t := 201) 6 rfl rfl rfl rfl rfl (by kernel_rfl) (by kernel_rfl) (by kernel_rfl) (fun _ _ _ _ h => h) (vl_fieldAddr ty24 fo24_1 ty3 rfl) rfl rfl ?_
      refine m_take_yes (j := 5) (t := 201) 7 true rfl rfl rfl rfl rfl (by kernel_rfl) (by kernel_rfl) (by kernel_rfl) (fun _ _ _ _ h => h) (v_loadl ty3 rfl rfl rfl rfl) rfl rfl ?_
      refine m_take_yes (j := 5) (t := 201) 8 false rfl rfl rfl rfl rfl (by kernel_rfl) (by kernel_rfl) (by kernel_rfl) (fun _ _ _ _ h => h) (v_move rfl) rfl rfl ?_
      refine m_take_yes (j := 5) (t := 201) 9 false rfl rfl rfl rfl rfl (by kernel_rfl) (by kernel_rfl) (by kernel_rfl) (fun _ _ _ _ h => h) (v_geq rfl rfl) rfl rfl ?_
      refine m_tk 10 false rfl rfl (by kernel_rfl) (v_pick_t rfl rfl) rfl rfl ?_
      refine m_tk 11 false rfl rfl (by kernel_rfl) (v_bool_eql ty4 rfl rfl) rfl rfl ?_
      refine m_tk 12 false rfl rfl (by kernel_rfl) (v_move rfl) rfl rfl ?_
      refine m_split 208 rfl (fun hg208 => ?_) (fun hg208 => ?_)
      ·
       try simp only [NM] at hg208
       refine m_one_yes (j := 12) (t := 208) 13 (by kernel_rfl) rfl rfl rfl rfl rfl ?_
       refine sm_callp rfl rfl rfl (awake33_ok _) ?_
       rintro _ rfl
       refine m_tk 14 false rfl rfl (by kernel_rfl) (v_pick_t rfl rfl) rfl rfl ?_
       refine m_tk 15 false rfl rfl (by kernel_rfl) (v_assign rfl) rfl rfl ?_
       refine m_done (by kernel_rfl) ?_
       refine g_next hK52 ?_
       refine g_ret ?_
       refine g_end1 (.inl rfl) Try.results7 (.tmp rfl) [] (ASub.refl _) (by first | exact AHeap.sub_refl _ | exact hsH | exact hsH1) (fun p hp => by cases hp) ⟨rfl, ?_⟩
       rfl
      · exfalso; (try simp only [NM] at hg208); first | (rw [hlev] at hg208; simp_all; done) | (simp_all; done)
     ·
      try simp only [NM] at hg201
      refine m_take_no (j := 5) (t := 201) 6 rfl rfl rfl rfl rfl rfl (by kernel_rfl) (by kernel_rfl) (by kernel_rfl) (fun _ _ _ _ h => h) rfl rfl ?_
      refine m_take_no (j := 5) (t := 201) 7 rfl rfl rfl rfl rfl rfl (by kernel_rfl) (by kernel_rfl) (by kernel_rfl) (fun _ _ _ _ h => h) rfl rfl ?_
      refine m_take_no (j := 5) (t := 201) 8 rfl rfl rfl rfl rfl rfl (by kernel_rfl) (by kernel_rfl) (by kernel_rfl) (fun _ _ _ _ h => h) rfl rfl ?_
      refine m_take_no (j := 5) (t := 201) 9 rfl rfl rfl rfl rfl rfl (by kernel_rfl) (by kernel_rfl) (by kernel_rfl) (fun _ _ _ _ h => h) rfl rfl ?_
      refine m_tk 10 false rfl rfl (by kernel_rfl) (v_pick_f rfl rfl) rfl rfl ?_
      refine m_tk 11 false rfl rfl (by kernel_rfl) (v_bool_eql ty4 rfl rfl) rfl rfl ?_
      refine m_tk 12 false rfl rfl (by kernel_rfl) (v_move rfl) rfl rfl ?_
      refine m_split 208 rfl (fun hg208 => ?_) (fun hg208 => ?_)
      ·
       try simp only [NM] at hg208
       refine m_one_yes (j := 12) (t := 208) 13 (by kernel_rfl) rfl rfl rfl rfl rfl ?_
       refine sm_callp rfl rfl rfl (awake33_ok _) ?_
       rintro _ rfl
       refine m_tk 14 false rfl rfl (by kernel_rfl) (v_pick_t rfl rfl) rfl rfl ?_
       refine m_tk 15 false rfl rfl (by kernel_rfl) (v_assign rfl) rfl rfl ?_
       refine m_done (by kernel_rfl) ?_
       refine g_next hK52 ?_
       first | refine g_keep [4] [] [] (keep_cons rfl keep_nil) lkeep_nil keep_nil rfl ?_ | refine g_keep [4] [] [] rfl rfl rfl rfl ?_
       refine g_ret ?_
       refine g_end1 (.inl rfl) Try.results7 (.tmp rfl) [] (ASub.refl _) (by first | exact AHeap.sub_refl _ | exact hsH | exact hsH1) (fun p hp => by cases hp) ⟨rfl, ?_⟩
       rfl
      · exfalso; (try simp only [NM] at hg208); first | (rw [hlev] at hg208; simp_all; done) | (simp_all; done)

end Go.Proofs.Ytgedefcjngofkaa

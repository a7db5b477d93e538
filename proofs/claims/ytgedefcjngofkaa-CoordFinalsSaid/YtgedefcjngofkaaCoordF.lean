import Derived.Test.YtgedefcjngofkaaCoordW
set_option maxHeartbeats 8000000
set_option linter.unusedSimpArgs false
set_option linter.unusedVariables false
set_option maxRecDepth 100000
namespace Go.Proofs.Ytgedefcjngofkaa
open Go Go.Proofs.Ytgedefcjngofkaa.AM
theorem cFinalize_ok (p : Nat) (k : Co) (l : List Rc) (g now : Int) (G : AHeap) (hp : G p = some (.box (encCo k))) (hl : l.length ≤ 1000000) (hs : ∀ x ∈ l, Small x.bag) (h0 : 0 ≤ k.ask) (h1 : k.ask ≤ 1000000) : LCalls Try.prog 32 [.box p 0, encRs l, .int .i64 g, .int .i64 now] G (fun b => b = p) (fun n v effs => v = .tup [.imm ((k.finB l g).map (.int .i64)), .int .i64 (k.finE l g)] ∧ effs = [(p, .box (encCo (k.finK l g now)))]) := by
 refine LCalls.intro 52 fi32 rfl Try.ntmps32 rfl (fun b hb => by rw [hb, hp]; simp) (fun H hH w0 hw0 => ?_)
 have hp0 := hp
 have hp := hH _ _ hp
 refine g_seq (fun K0 hK0 => ?_)
 refine g_region ?_
 refine g_step rfl (s_box rfl rfl rfl rfl ?_)
 refine g_step rfl (s_val (v_assign rfl) rfl rfl ?_)
 refine g_step rfl (s_val (v_assign rfl) rfl rfl ?_)
 refine g_nil ?_
 refine g_next hK0 ?_
 refine g_seq (fun K1 hK1 => ?_)
 refine g_seq (fun K2 hK2 => ?_)
 refine g_region ?_
 refine g_step rfl (s_val (v_move rfl) rfl rfl ?_)
 refine g_step rfl (s_val (by first | exact v_ptr_eql_nil ty53 rfl rfl rfl | exact v_nil_eql_nil ty53 rfl rfl | exact v_ptrO_eql ty53 rfl rfl) rfl rfl ?_)
 refine g_nil ?_
 refine g_next hK2 ?_
 refine g_cond rfl (fun hc13 => ?_) (fun hc13 => ?_)
 · exfalso; (try simp only [NM] at hc13); simp at hc13
 ·
  try simp only [NM] at hc13
  refine g_skip ?_
  refine g_next hK1 ?_
  refine g_seq (fun K3 hK3 => ?_)
  refine g_region ?_
  refine g_step rfl (s_val (v_move rfl) rfl rfl ?_)
  refine g_step rfl (s_val (v_nilCheck rfl rfl) rfl rfl ?_)
  refine g_step rfl (s_val (by first | exact v_fieldAddr ty116 fo116_3 ty111 rfl | exact v_fieldAddr_box ty116 fo116_3 ty111 rfl) rfl rfl ?_)
  refine g_step rfl (s_call rfl rfl rfl (iadd_ok p (0 + 18) k.ask (coL k) _ h0 h1 hp rfl) (fun b hb => .inl hb) ?_)
  rintro n1 v1 effs1 hn1 hdom1 ⟨rfl, rfl⟩ hok1
  generalize hG0 : setAll H [(p, .box (.agg ((coL k).set (0 + 18) (.int .i64 (k.ask + 1)))))] = G1
  have hG1 : AHeap.set H p (.box (encCo k.up)) = G1 := hG0
  have hp1 : G1 p = some (.box (encCo k.up)) := by rw [← hG1]; exact AHeap.get_set _ _ _
  refine g_nil ?_
  refine g_next hK3 ?_
  refine g_seq (fun K4 hK4 => ?_)
  refine g_block ?_
  refine g_seq (fun K5 hK5 => ?_)
  refine g_region ?_
  refine g_step rfl (s_val (v_move rfl) rfl rfl ?_)
  refine g_step rfl (s_val (v_lss rfl rfl) rfl rfl ?_)
  refine g_step rfl (s_val (v_move rfl) rfl rfl ?_)
  refine g_split 21 rfl (fun hg21 => ?_) (fun hg21 => ?_)
  ·
   try simp only [NM] at hg21
   refine g_step_no (j := 2) (t := 21) rfl rfl rfl rfl rfl rfl rfl ?_
   refine g_step_no (j := 2) (t := 21) rfl rfl rfl rfl rfl rfl rfl ?_
   refine g_step rfl (s_val (v_pick_t rfl rfl) rfl rfl ?_)
   refine g_step rfl (s_val (v_assign rfl) rfl rfl ?_)
   refine g_nil ?_
   refine g_next hK5 ?_
   refine g_cond rfl (fun _ => ?_) (fun h => by cases h)
   refine g_seq (fun K6 hK6 => ?_)
   refine g_region ?_
   refine g_step rfl (s_val (v_assign rfl) rfl rfl ?_)
   refine g_step rfl (s_val (v_assign rfl) rfl rfl ?_)
   refine g_nil ?_
   refine g_next hK6 ?_
   refine g_ret ?_
   refine g_block_ret ?_
   refine g_then_ret ?_
   have hE : k.finE l g = 5 := by rw [Co.finE, if_pos (by omega)]
   have hB : k.finB l g = [] := by rw [Co.finB, hE]; rfl
   have hK : (k.finK l g now) = k.up := by rw [Co.finK, hE]; rfl
   refine g_end2 (.inl rfl) Try.results32 (.tmp rfl) (.tmp rfl) [(p, .box (encCo (k.finK l g now)))] (ASub.tup (m := [.imm ((k.finB l g).map (.int .i64)), .int .i64 (k.finE l g)]) ⟨by rw [hB]; first | exact ASub.nil0 | exact ASub.refl _, by rw [hE]; exact ASub.refl _, trivial⟩) (by rw [hK, ← hG1]; exact AHeap.sub_refl _) (fun q hq => .inl (by rw [List.mem_singleton.1 hq, hp0]; simp)) ⟨rfl, rfl⟩
  ·
   try simp only [NM] at hg21
   refine g_step_yes (j := 2) (t := 21) rfl rfl rfl rfl (s_val (v_move rfl) rfl rfl ?_)
   refine g_step_yes (j := 2) (t := 21) rfl rfl rfl rfl (s_val (v_gtr rfl rfl) rfl rfl ?_)
   refine g_step rfl (s_val (v_pick_f rfl rfl) rfl rfl ?_)
   refine g_step rfl (s_val (v_assign rfl) rfl rfl ?_)
   refine g_nil ?_
   refine g_next hK5 ?_
   refine g_cond rfl (fun hc18 => ?_) (fun hc18 => ?_)
   ·
    try simp only [NM] at hc18
    refine g_seq (fun K7 hK7 => ?_)
    refine g_region ?_
    refine g_step rfl (s_val (v_assign rfl) rfl rfl ?_)
    refine g_step rfl (s_val (v_assign rfl) rfl rfl ?_)
    refine g_nil ?_
    refine g_next hK7 ?_
    refine g_ret ?_
    refine g_block_ret ?_
    refine g_then_ret ?_
    have hE : k.finE l g = 5 := by rw [Co.finE, if_pos (by omega)]
    have hB : k.finB l g = [] := by rw [Co.finB, hE]; rfl
    have hK : (k.finK l g now) = k.up := by rw [Co.finK, hE]; rfl
    refine g_end2 (.inl rfl) Try.results32 (.tmp rfl) (.tmp rfl) [(p, .box (encCo (k.finK l g now)))] (ASub.tup (m := [.imm ((k.finB l g).map (.int .i64)), .int .i64 (k.finE l g)]) ⟨by rw [hB]; first | exact ASub.nil0 | exact ASub.refl _, by rw [hE]; exact ASub.refl _, trivial⟩) (by rw [hK, ← hG1]; exact AHeap.sub_refl _) (fun q hq => .inl (by rw [List.mem_singleton.1 hq, hp0]; simp)) ⟨rfl, rfl⟩
   ·
    try simp only [NM] at hc18
    refine g_seq (fun K8 hK8 => ?_)
    refine g_region ?_
    refine g_step rfl (s_val (v_move rfl) rfl rfl ?_)
    refine g_step rfl (s_callp rfl rfl rfl (sorted_ok l _ (by omega) hs) ?_)
    rintro _ rfl
    refine g_step rfl (s_val (v_not rfl) rfl rfl ?_)
    refine g_step rfl (s_val (v_assign rfl) rfl rfl ?_)
    refine g_nil ?_
    refine g_next hK8 ?_
    refine g_cond rfl (fun hc25 => ?_) (fun hc25 => ?_)
    ·
     try simp only [NM] at hc25
     refine g_seq (fun K9 hK9 => ?_)
     refine g_region ?_
     refine g_step rfl (s_val (v_assign rfl) rfl rfl ?_)
     refine g_step rfl (s_val (v_assign rfl) rfl rfl ?_)
     refine g_nil ?_
     refine g_next hK9 ?_
     refine g_ret ?_
     refine g_block_ret ?_
     refine g_then_ret ?_
     have hE : k.finE l g = 1 := by rw [Co.finE, if_neg (by omega), if_pos (by simp_all)]
     have hB : k.finB l g = [] := by rw [Co.finB, hE]; rfl
     have hK : (k.finK l g now) = k.up := by rw [Co.finK, hE]; rfl
     refine g_end2 (.inl rfl) Try.results32 (.tmp rfl) (.tmp rfl) [(p, .box (encCo (k.finK l g now)))] (ASub.tup (m := [.imm ((k.finB l g).map (.int .i64)), .int .i64 (k.finE l g)]) ⟨by rw [hB]; first | exact ASub.nil0 | exact ASub.refl _, by rw [hE]; exact ASub.refl _, trivial⟩) (by rw [hK, ← hG1]; exact AHeap.sub_refl _) (fun q hq => .inl (by rw [List.mem_singleton.1 hq, hp0]; simp)) ⟨rfl, rfl⟩
    ·
     try simp only [NM] at hc25
     refine g_seq (fun K10 hK10 => ?_)
     refine g_region ?_
     refine g_step rfl (s_val (v_move rfl) rfl rfl ?_)
     refine g_step rfl (s_val (v_move rfl) rfl rfl ?_)
     refine g_step rfl (s_callp rfl rfl rfl (open_ok l g _ (by omega)) ?_)
     rintro _ rfl
     refine g_step rfl (s_val (v_not rfl) rfl rfl ?_)
     refine g_step rfl (s_val (v_assign rfl) rfl rfl ?_)
     refine g_nil ?_
     refine g_next hK10 ?_
     first | refine g_keep [0, 1, 2, 29] [7] [7] (keep_cons rfl (keep_cons rfl (keep_cons rfl (keep_cons rfl keep_nil)))) (lkeep_cons rfl lkeep_nil) (keep_cons rfl keep_nil) rfl ?_ | refine g_keep [0, 1, 2, 29] [7] [7] rfl rfl rfl rfl ?_
     refine g_cond rfl (fun hc29 => ?_) (fun hc29 => ?_)
     ·
      try simp only [NM] at hc29
      refine g_seq (fun K11 hK11 => ?_)
      refine g_region ?_
      refine g_step rfl (s_val (v_move rfl) rfl rfl ?_)
      refine g_step rfl (s_val (v_move rfl) rfl rfl ?_)
      refine g_step rfl (s_callp rfl rfl rfl (bars_ok l g _ _ rfl (by omega)) ?_)
      rintro _ rfl
      refine g_step rfl (s_val (v_assign rfl) rfl rfl ?_)
      refine g_step rfl (s_val (v_assign rfl) rfl rfl ?_)
      refine g_nil ?_
      refine g_next hK11 ?_
      refine g_ret ?_
      refine g_block_ret ?_
      refine g_then_ret ?_
      have hE : k.finE l g = 9 := by rw [Co.finE, if_neg (by omega), if_neg (by simp_all), if_pos (by simp_all)]
      have hB : k.finB l g = barsL l g := by rw [Co.finB, hE]; rfl
      have hK : (k.finK l g now) = k.up := by rw [Co.finK, hE]; rfl
      refine g_end2 (.inl rfl) Try.results32 (.tmp rfl) (.tmp rfl) [(p, .box (encCo (k.finK l g now)))] (ASub.tup (m := [.imm ((k.finB l g).map (.int .i64)), .int .i64 (k.finE l g)]) ⟨by rw [hB]; first | exact ASub.nil0 | exact ASub.refl _, by rw [hE]; exact ASub.refl _, trivial⟩) (by rw [hK, ← hG1]; exact AHeap.sub_refl _) (fun q hq => .inl (by rw [List.mem_singleton.1 hq, hp0]; simp)) ⟨rfl, rfl⟩
     ·
      try simp only [NM] at hc29
      refine g_skip ?_
      refine g_block_normal ?_
      refine g_next hK4 ?_
      refine g_seq (fun K12 hK12 => ?_)
      refine g_seq (fun K13 hK13 => ?_)
      refine g_region ?_
      have hE : k.finE l g = 0 := by rw [Co.finE, if_neg (by omega), if_neg (by simp_all), if_neg (by simp_all)]
      have hB : k.finB l g = [] := by rw [Co.finB, hE]; rfl
      have hK : (k.finK l g now) = k.up.run now g.toNat := by rw [Co.finK, hE]; rfl
      obtain ⟨gn, rfl⟩ := Int.eq_ofNat_of_zero_le (a := g) (by omega)
      rw [Int.toNat_natCast] at hK
      refine g_expose 7 rfl rfl (fun r7 hr7 hw7 => ?_)
      refine g_step rfl (s_val (v_move rfl) rfl rfl ?_)
      have hpr : p ≠ r7 := fun e => by rw [← e, hp1] at hr7; cases hr7
      refine g_step rfl (s_val (v_move rfl) rfl rfl ?_)
      refine g_nil ?_
      refine g_next hK13 ?_
      refine g_block ?_
      first | refine g_keep [0, 7, 37, 38] [] [] (keep_cons rfl (keep_cons rfl (keep_cons rfl (keep_cons rfl keep_nil)))) lkeep_nil keep_nil rfl ?_ | refine g_keep [0, 7, 37, 38] [] [] rfl rfl rfl rfl ?_
      refine g_loop (fun n env L B G => ∃ (i : Nat) , i ≤ gn ∧ n = gn - i ∧ env = [(0, .box p 0), (7, .box r7 0), (37, .int .i64 (gn : Int)), (38, .int .i64 (i : Int))] ∧ L = [] ∧ B = [] ∧ (H.set p (.box (encCo (k.up.run now i)))).sub G ∧ G r7 = some (.box (.int .i64 now))) (gn) ⟨0, Nat.zero_le _, rfl, rfl, rfl, rfl, ⟨by show (AHeap.set H p (.box (encCo k.up))).sub _; rw [hG1]; exact AHeap.sub_set (AHeap.sub_refl _) hr7, AHeap.get_set _ _ _⟩⟩ (fun n env L B G hI => ?_)
      obtain ⟨i, hi, rfl, rfl, rfl, rfl, hsub, hr7g⟩ := hI
      have hpg := hsub _ _ (AHeap.get_set _ _ _)
      refine g_seq (fun K14 hK14 => ?_)
      refine g_region ?_
      refine g_step rfl (s_val (v_lss rfl rfl) rfl rfl ?_)
      refine g_nil ?_
      refine g_next hK14 ?_
      refine g_seq (fun K15 hK15 => ?_)
      refine g_cond rfl (fun hc39 => ?_) (fun hc39 => ?_)
      ·
       try simp only [NM] at hc39
       refine g_skip ?_
       refine g_next hK15 ?_
       refine g_seq (fun K16 hK16 => ?_)
       refine g_block ?_
       refine g_seq (fun K17 hK17 => ?_)
       refine g_region ?_
       refine g_step rfl (s_val (v_move rfl) rfl rfl ?_)
       refine g_step rfl (s_val (v_assign rfl) rfl rfl ?_)
       refine g_nil ?_
       refine g_next hK17 ?_
       refine g_seq (fun K18 hK18 => ?_)
       refine g_region ?_
       refine g_step rfl (s_val (v_move rfl) rfl rfl ?_)
       refine g_step rfl (s_val (v_move rfl) rfl rfl ?_)
       refine g_step rfl (s_val (v_nilCheck rfl rfl) rfl rfl ?_)
       refine g_step rfl (s_val (by first | exact v_fieldAddr ty116 fo116_2 ty114 rfl | exact v_fieldAddr_box ty116 fo116_2 ty114 rfl) rfl rfl ?_)
       refine g_step rfl (s_val (v_indexAddr_arr (k := i) ty114 ty113 rfl rfl rfl (by omega)) rfl rfl ?_)
       refine g_step rfl (s_alloc (av := .nilp) ty118 rfl rfl rfl rfl ?_)
       refine g_step rfl (s_store_all ty118 rfl rfl rfl rfl rfl rfl ?_)
       refine g_nil ?_
       refine g_next hK18 ?_
       refine g_region ?_
       refine g_expose 11 rfl rfl (fun r11 hr11 hw11 => ?_)
       refine g_step rfl (s_val (by first | exact v_load ty118 rfl rfl (by first | rfl | assumption) (by first | assumption | exact map_get (by assumption) | rfl) rfl | exact v_load_box ty118 rfl rfl (AHeap.get_set _ _ _) (by rfl)) rfl rfl ?_)
       have hpr11 : p ≠ r11 := fun e => by rw [← e, hpg] at hr11; cases hr11
       have h711 : r7 ≠ r11 := fun e => by rw [← e, hr7g] at hr11; cases hr11
       refine g_step rfl (s_val (v_nilCheck rfl rfl) rfl rfl ?_)
       refine g_step rfl (s_val (by first | exact v_fieldAddr ty113 fo113_0 ty108 rfl | exact v_fieldAddr_box ty113 fo113_0 ty108 rfl) rfl rfl ?_)
       refine g_step rfl (s_val (v_makeFunc rfl) rfl rfl ?_)
       refine g_step rfl (s_call rfl rfl rfl (cdo_ok p r11 r7 (0 + 3 + i * 5 + 0) (k.up.run now i) i (by omega) (by omega) now _ ((AHeap.get_set_ne _ _ hpr11).trans hpg) (AHeap.get_set _ _ _) ((AHeap.get_set_ne _ _ h711).trans hr7g)) (fun b hb => .inl hb) ?_)
       rintro n2 v2 effs2 hn2 hdom2 ⟨rfl, rfl⟩ hok2
       have hsub2 := sub_turn (y := .box (encCo (k.up.run now (i + 1)))) hsub (AHeap.sub_set (AHeap.sub_refl _) hr11 (x := .box (.box p (0 + 3 + i * 5))))
       have hr7g2 : (AHeap.set (AHeap.set _ r11 (.box (.box p (0 + 3 + i * 5)))) p (.box (encCo (k.up.run now (i + 1))))) r7 = some (.box (.int .i64 now)) := (AHeap.get_set_ne _ _ (Ne.symm hpr)).trans ((AHeap.get_set_ne _ _ h711).trans hr7g)
       refine g_nil ?_
       refine g_block_normal ?_
       refine g_next hK16 ?_
       refine g_region ?_
       refine g_step rfl (s_val (v_add rfl rfl (by omega)) rfl rfl ?_)
       refine g_step rfl (s_val (v_move rfl) rfl rfl ?_)
       refine g_nil ?_
       first | refine g_keep [0, 7, 37, 38] [] [] (keep_cons rfl (keep_cons rfl (keep_cons rfl (keep_cons rfl keep_nil)))) lkeep_nil keep_nil rfl ?_ | refine g_keep [0, 7, 37, 38] [] [] rfl rfl rfl rfl ?_
       exact g_round _ (by omega) ⟨i + 1, by omega, rfl, rfl, rfl, rfl, ⟨hsub2, hr7g2⟩⟩
      ·
       try simp only [NM] at hc39
       refine g_exit ?_
       refine g_then_exit ?_
       refine g_then_exit ?_
       refine g_block_same ?_
       refine g_next hK12 ?_
       refine g_seq (fun K19 hK19 => ?_)
       refine g_region ?_
       refine g_step rfl (s_val (v_assign rfl) rfl rfl ?_)
       refine g_step rfl (s_val (v_assign rfl) rfl rfl ?_)
       refine g_nil ?_
       refine g_next hK19 ?_
       refine g_ret ?_
       refine g_end2 (.inl rfl) Try.results32 (.tmp rfl) (.tmp rfl) [(p, .box (encCo (k.finK l (gn : Int) now)))] (ASub.tup (m := [.imm ((k.finB l gn).map (.int .i64)), .int .i64 (k.finE l gn)]) ⟨by rw [hB]; exact ASub.nil0, by rw [hE]; exact ASub.refl _, trivial⟩) (by have hign : i = gn := (by omega); rw [hK, ← hign]; exact hsub) (fun q hq => .inl (by rw [List.mem_singleton.1 hq, hp0]; simp)) ⟨rfl, rfl⟩

theorem cAdmits_ok (p : Nat) (k : Co) (s : Sp) (G : AHeap) (hp : G p = some (.box (encCo k))) : PCalls Try.prog 39 [.box p 0, encSp s] G (fun v => v = .bool (spValid s && decide (k.level ≤ s.hi))) := by
 refine LCalls.intro 18 fi39 rfl Try.ntmps39 rfl (fun _ h => h.elim) (fun H hH w0 hw0 => ?_)
 have hp := hH _ _ hp
 refine g_seq (fun K0 hK0 => ?_)
 refine g_region ?_
 refine g_step rfl (s_box rfl rfl rfl rfl ?_)
 refine g_step rfl (s_val (v_assign rfl) rfl rfl ?_)
 refine g_nil ?_
 refine g_next hK0 ?_
 refine g_seq (fun K1 hK1 => ?_)
 refine g_draw (n := 14) (fun j => !([] : List Nat).contains j) rfl rfl ?_
 refine m_tk 0 false rfl rfl (by kernel_rfl) (v_move rfl) rfl rfl ?_
 refine m_tk 1 false rfl rfl (by kernel_rfl) (by first | exact v_ptr_neq_nil ty53 rfl rfl rfl | exact v_nil_neq_nil ty53 rfl rfl | exact v_ptrO_neq ty53 rfl rfl) rfl rfl ?_
 refine m_tk 2 false rfl rfl (by kernel_rfl) (v_move rfl) rfl rfl ?_
 refine m_split 7 rfl (fun hg7 => ?_) (fun hg7 => ?_)
 ·
  try simp only [NM] at hg7
  refine m_take_yes (j := 2) (t := 7) 3 true rfl rfl rfl rfl rfl (by kernel_rfl) (by kernel_rfl) (by kernel_rfl) (fun _ _ _ _ h => h) (by first | exact v_loadl_all ty24 rfl rfl rfl rfl rfl | exact v_loadl_part (cs := [_, _]) ty24 rfl rfl rfl rfl rfl rfl) rfl rfl ?_
  refine m_one_yes (j := 2) (t := 7) 4 (by kernel_rfl) rfl rfl rfl rfl rfl ?_
  refine sm_callp rfl rfl rfl (spValid_ok s _) ?_
  rintro _ rfl
  refine m_tk 5 false rfl rfl (by kernel_rfl) (v_pick_t rfl rfl) rfl rfl ?_
  refine m_tk 6 false rfl rfl (by kernel_rfl) (v_move rfl) rfl rfl ?_
  refine m_split 11 rfl (fun hg11 => ?_) (fun hg11 => ?_)
  ·
   try simp only [NM] at hg11
   refine m_takel_yes (j := 6) (t := 11) 7 rfl rfl rfl rfl rfl (by kernel_rfl) (by kernel_rfl) (by kernel_rfl) (fun _ _ _ _ h => h) (vl_fieldAddr ty24 fo24_1 ty3 rfl) rfl rfl ?_
   refine m_take_yes (j := 6) (t := 11) 8 true rfl rfl rfl rfl rfl (by kernel_rfl) (by kernel_rfl) (by kernel_rfl) (fun _ _ _ _ h => h) (v_loadl ty3 rfl rfl rfl rfl) rfl rfl ?_
   refine m_take_yes (j := 6) (t := 11) 9 false rfl rfl rfl rfl rfl (by kernel_rfl) (by kernel_rfl) (by kernel_rfl) (fun _ _ _ _ h => h) (v_move rfl) rfl rfl ?_
   refine m_one_yes (j := 6) (t := 11) 10 (by kernel_rfl) rfl rfl rfl rfl rfl ?_
   refine sm_callp rfl rfl rfl (cLevel_ok p k _ hp) ?_
   rintro _ rfl
   refine m_take_yes (j := 6) (t := 11) 11 false rfl rfl rfl rfl rfl (by kernel_rfl) (by kernel_rfl) (by kernel_rfl) (fun _ _ _ _ h => h) (v_geq rfl rfl) rfl rfl ?_
   refine m_tk 12 false rfl rfl (by kernel_rfl) (v_pick_t rfl rfl) rfl rfl ?_
   refine m_tk 13 false rfl rfl (by kernel_rfl) (v_assign rfl) rfl rfl ?_
   refine m_done (by kernel_rfl) ?_
   refine g_next hK1 ?_
   refine g_ret ?_
   refine g_end1 (.inl rfl) Try.results39 (.tmp rfl) [] (ASub.refl _) (AHeap.sub_refl _) (fun p hp => by cases hp) ⟨rfl, ?_⟩
   first | (first | rfl | (simp_all; done); done) | (first | rfl | (simp_all; done); rfl)
  ·
   try simp only [NM] at hg11
   refine m_take_no (j := 6) (t := 11) 7 rfl rfl rfl rfl rfl rfl (by kernel_rfl) (by kernel_rfl) (by kernel_rfl) (fun _ _ _ _ h => h) rfl rfl ?_
   refine m_take_no (j := 6) (t := 11) 8 rfl rfl rfl rfl rfl rfl (by kernel_rfl) (by kernel_rfl) (by kernel_rfl) (fun _ _ _ _ h => h) rfl rfl ?_
   refine m_take_no (j := 6) (t := 11) 9 rfl rfl rfl rfl rfl rfl (by kernel_rfl) (by kernel_rfl) (by kernel_rfl) (fun _ _ _ _ h => h) rfl rfl ?_
   refine m_take_no (j := 6) (t := 11) 10 rfl rfl rfl rfl rfl rfl (by kernel_rfl) (by kernel_rfl) (by kernel_rfl) (fun _ _ _ _ h => h) rfl rfl ?_
   refine m_take_no (j := 6) (t := 11) 11 rfl rfl rfl rfl rfl rfl (by kernel_rfl) (by kernel_rfl) (by kernel_rfl) (fun _ _ _ _ h => h) rfl rfl ?_
   refine m_tk 12 false rfl rfl (by kernel_rfl) (v_pick_f rfl rfl) rfl rfl ?_
   refine m_tk 13 false rfl rfl (by kernel_rfl) (v_assign rfl) rfl rfl ?_
   refine m_done (by kernel_rfl) ?_
   refine g_next hK1 ?_
   refine g_ret ?_
   refine g_end1 (.inl rfl) Try.results39 (.tmp rfl) [] (ASub.refl _) (AHeap.sub_refl _) (fun p hp => by cases hp) ⟨rfl, ?_⟩
   first | (first | rfl | (simp_all; done); done) | (first | rfl | (simp_all; done); rfl)
 · exfalso; (try simp only [NM] at hg7); simp at hg7

end Go.Proofs.Ytgedefcjngofkaa

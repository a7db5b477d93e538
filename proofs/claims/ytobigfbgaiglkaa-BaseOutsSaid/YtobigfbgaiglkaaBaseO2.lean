import Derived.Test.YtobigfbgaiglkaaBaseO
set_option maxHeartbeats 8000000
set_option linter.unusedSimpArgs false
set_option linter.unusedVariables false
set_option maxRecDepth 100000
namespace Go.Proofs.Ytobigfbgaiglkaa
open Go Go.Proofs.Ytobigfbgaiglkaa.AM
theorem baseOuts_ok (life : Int) (l : List OAct) (hh : ∀ a ∈ l, ∀ r ∈ a.now, Held r.bag) (hb : ∀ a ∈ l, a.now.length ≤ 140737488351232) (G : AHeap) : PCalls Try.prog 7 [.int .i64 life, .imm (l.map encOA)] G (fun r => r = .bool true) := by
 refine LCalls.intro 232 fi7 rfl Try.ntmps7 rfl (fun _ h => h.elim) (fun H hH w0 hw0 => ?_)
 refine g_seq (fun K0 hK0 => ?_)
 refine g_region ?_
 refine g_step rfl (s_val (v_assign rfl) rfl rfl ?_)
 refine g_nil ?_
 refine g_next hK0 ?_
 refine g_seq (fun K1 hK1 => ?_)
 refine g_seq (fun K2 hK2 => ?_)
 refine g_region ?_
 refine g_step rfl (s_val (v_move rfl) rfl rfl ?_)
 refine g_step rfl (s_val (v_len ty60 rfl (by first | rfl | assumption) (by first | exact List.length_map .. | rfl)) rfl rfl ?_)
 refine g_step rfl (s_val (v_gtr rfl rfl) rfl rfl ?_)
 refine g_nil ?_
 refine g_next hK2 ?_
 refine g_cond rfl (fun hc18 => ?_) (fun hc18 => ?_)
 ·
  try simp only [decide_eq_true_eq, decide_eq_false_iff_not, Bool.not_eq_true', Bool.not_eq_false', Bool.not_eq_eq_eq_not, Bool.not_true, Bool.not_false, Bool.and_eq_true, Bool.or_eq_true, Bool.or_eq_false_iff, beq_iff_eq, beq_eq_false_iff_ne, ne_eq, Int.not_lt, Int.not_le, Decidable.not_not] at hc18
  refine g_seq (fun K3 hK3 => ?_)
  refine g_region ?_
  refine g_step rfl (s_callp rfl rfl rfl (awake26_ok _) ?_)
  rintro _ rfl
  refine g_step rfl (s_val (v_assign rfl) rfl rfl ?_)
  refine g_nil ?_
  refine g_next hK3 ?_
  refine g_ret ?_
  refine g_then_ret ?_
  refine g_end1 (.inl rfl) Try.results7 (.tmp rfl) [] (ASub.refl _) (by first | exact hs_H | exact hs_H1 | exact AHeap.sub_refl _) (fun p hp => by cases hp) ⟨rfl, ?_⟩
  rfl
 ·
  try simp only [decide_eq_true_eq, decide_eq_false_iff_not, Bool.not_eq_true', Bool.not_eq_false', Bool.not_eq_eq_eq_not, Bool.not_true, Bool.not_false, Bool.and_eq_true, Bool.or_eq_true, Bool.or_eq_false_iff, beq_iff_eq, beq_eq_false_iff_ne, ne_eq, Int.not_lt, Int.not_le, Decidable.not_not] at hc18
  refine g_skip ?_
  refine g_next hK1 ?_
  refine g_seq (fun K4 hK4 => ?_)
  refine g_region ?_
  refine g_step rfl (s_val (v_move rfl) rfl rfl ?_)
  refine g_step rfl (s_call rfl rfl rfl (pushing_ok life _) (fun _ h => h.elim) ?_)
  rintro n1 _ effs1 hn1 hdom1 ⟨p, r, hp1, hr1, hpr1, rfl, rfl⟩ hok1
  have hw_p : w0.heap.size ≤ p := Nat.le_trans hn1 hp1
  have hw_r : w0.heap.size ≤ r := Nat.le_trans hn1 hr1
  have hz_p := hdom1 _ hp1
  have hz_r := hdom1 _ hr1
  have hO : OutIs ((AHeap.set (fun _ => none) r (bmRow [])).set p (.box (.agg [.int .i64 life, .map r]))) p r life (fun _ => s0) := ⟨[], _, PA.empty hpr1⟩
  generalize hh0 : (AHeap.set (fun _ => none) r (bmRow [])).set p (.box (.agg [.int .i64 life, .map r])) = h at hO
  have hab : ∀ b, h b ≠ none → w0.heap.size ≤ b := empty_above hh0 hw_p hw_r
  have hs : h.sub (setAll H [(p, .box (.agg [.int .i64 life, .map r])), (r, bmRow [])]) := by rw [← hh0]; exact empty_sub
  have hs_H : H.sub (setAll H [(p, .box (.agg [.int .i64 life, .map r])), (r, bmRow [])]) := sub_set_free _ (sub_set_free _ (AHeap.sub_refl _) hz_r) hz_p
  have hpp : (setAll H [(p, .box (.agg [.int .i64 life, .map r])), (r, bmRow [])]) p = some (.box (.agg [.int .i64 life, .map r])) := AHeap.get_set _ _ _
  refine g_step rfl (s_val (v_assign rfl) rfl rfl ?_)
  refine g_nil ?_
  refine g_next hK4 ?_
  refine g_seq (fun K5 hK5 => ?_)
  refine g_seq (fun K6 hK6 => ?_)
  refine g_region ?_
  refine g_step rfl (s_val (v_move rfl) rfl rfl ?_)
  refine g_step rfl (s_val (by first | exact v_ptr_eql_nil ty61 rfl rfl rfl | exact v_nil_eql_nil ty61 rfl rfl | exact v_ptrO_eql ty61 rfl rfl) rfl rfl ?_)
  refine g_step rfl (s_val (v_move rfl) rfl rfl ?_)
  refine g_split 24 rfl (fun hg24 => ?_) (fun hg24 => ?_)
  · exfalso; (try simp only [decide_eq_true_eq, decide_eq_false_iff_not, Bool.not_eq_true', Bool.not_eq_false', Bool.not_eq_eq_eq_not, Bool.not_true, Bool.not_false, Bool.and_eq_true, Bool.or_eq_true, Bool.or_eq_false_iff, beq_iff_eq, beq_eq_false_iff_ne, ne_eq, Int.not_lt, Int.not_le, Decidable.not_not] at hg24); simp at hg24
  ·
   try simp only [decide_eq_true_eq, decide_eq_false_iff_not, Bool.not_eq_true', Bool.not_eq_false', Bool.not_eq_eq_eq_not, Bool.not_true, Bool.not_false, Bool.and_eq_true, Bool.or_eq_true, Bool.or_eq_false_iff, beq_iff_eq, beq_eq_false_iff_ne, ne_eq, Int.not_lt, Int.not_le, Decidable.not_not] at hg24
   refine g_step_yes (j := 2) (t := 24) rfl rfl rfl rfl (s_val (v_move rfl) rfl rfl ?_)
   refine g_step_yes (j := 2) (t := 24) rfl rfl rfl rfl (s_callp rfl rfl rfl (life_ok p r life _ hpp) ?_)
   rintro _ rfl
   refine g_step_yes (j := 2) (t := 24) rfl rfl rfl rfl (s_val (v_move rfl) rfl rfl ?_)
   refine g_step_yes (j := 2) (t := 24) rfl rfl rfl rfl (s_val (v_neq rfl rfl) rfl rfl ?_)
   refine g_step rfl (s_val (v_pick_f rfl rfl) rfl rfl ?_)
   refine g_nil ?_
   refine g_next hK6 ?_
   refine g_cond rfl (fun hc29 => ?_) (fun hc29 => ?_)
   · exfalso; (try simp only [decide_eq_true_eq, decide_eq_false_iff_not, Bool.not_eq_true', Bool.not_eq_false', Bool.not_eq_eq_eq_not, Bool.not_true, Bool.not_false, Bool.and_eq_true, Bool.or_eq_true, Bool.or_eq_false_iff, beq_iff_eq, beq_eq_false_iff_ne, ne_eq, Int.not_lt, Int.not_le, Decidable.not_not] at hc29); first | exact hc29 rfl | simp at hc29
   ·
    try simp only [decide_eq_true_eq, decide_eq_false_iff_not, Bool.not_eq_true', Bool.not_eq_false', Bool.not_eq_eq_eq_not, Bool.not_true, Bool.not_false, Bool.and_eq_true, Bool.or_eq_true, Bool.or_eq_false_iff, beq_iff_eq, beq_eq_false_iff_ne, ne_eq, Int.not_lt, Int.not_le, Decidable.not_not] at hc29
    refine g_skip ?_
    refine g_next hK5 ?_
    refine g_seq (fun K7 hK7 => ?_)
    refine g_region ?_
    refine g_step rfl (s_makeO (n := 2) (za := (.agg [(.int .i64 0), (.int .i64 0), .nil0, .nil0])) ty63 ty72 rfl rfl rfl rfl rfl rfl (by omega) (by omega) ?_)
    intro r30 hr30 hw30
    refine g_step rfl (s_val (v_assign rfl) rfl rfl ?_)
    refine g_nil ?_
    refine g_next hK7 ?_
    refine g_seq (fun K8 hK8 => ?_)
    refine g_seq (fun K9 hK9 => ?_)
    refine g_region ?_
    refine g_wkrow (m := [s0, s0].map encOP) (AHeap.get_set _ _ _) rfl ?_
    rw [AHeap.set_set]
    have hhr : h r30 = none := sub_none hs hr30
    have hHr30 : H r30 = none := sub_none hs_H hr30
    refine g_step rfl (s_val (v_assign rfl) rfl rfl ?_)
    refine g_nil ?_
    refine g_next hK9 ?_
    refine g_block ?_
    first | refine g_keep [0, 1, 5, 6, 7] [] [] (keep_cons rfl (keep_cons rfl (keep_cons rfl (keep_cons rfl (keep_cons rfl keep_nil))))) lkeep_nil keep_nil rfl ?_ | refine g_keep [0, 1, 5, 6, 7] [] [] rfl rfl rfl rfl ?_
    refine g_loop (fun n env L B G => ∃ (k : Nat) (f : Int → Snt) (h : AHeap), k ≤ l.length ∧ n = l.length - k ∧ env = [(0, .int .i64 life), (1, .imm (l.map encOA)), (5, .box p 0), (6, .own r30 4 0 2), (7, .int .i64 (k : Int))] ∧ L = [] ∧ B = [] ∧ OutIs h p r life f ∧ h.sub G ∧ (∀ b, h b ≠ none → w0.heap.size ≤ b) ∧ H.sub G ∧ h r30 = none ∧ G r30 = some (.row 4 ([f 0, f 1].map encOP)) ∧ SInv k (f 0) ∧ SInv k (f 1)) (l.length) ⟨0, (fun _ => s0), h, Nat.zero_le _, rfl, rfl, rfl, rfl, ⟨hO, sub_set' hs hhr, hab, sub_set' hs_H hHr30, hhr, AHeap.get_set _ _ _, SInv.zero 0, SInv.zero 0⟩⟩ (fun n env L B G hI => ?_)
    obtain ⟨k, f, h, hk, rfl, rfl, rfl, rfl, hO, hs, hab, hs_H, hhr, hrm, hS0, hS1⟩ := hI
    refine g_seq (fun K10 hK10 => ?_)
    refine g_seq (fun K11 hK11 => ?_)
    refine g_region ?_
    refine g_step rfl (s_val (v_move rfl) rfl rfl ?_)
    refine g_step rfl (s_val (v_move rfl) rfl rfl ?_)
    refine g_step rfl (s_val (v_len ty60 rfl (by first | rfl | assumption) (by first | exact List.length_map .. | rfl)) rfl rfl ?_)
    refine g_step rfl (s_val (v_lss rfl rfl) rfl rfl ?_)
    refine g_nil ?_
    refine g_next hK11 ?_
    refine g_cond rfl (fun hc34 => ?_) (fun hc34 => ?_)
    ·
     try simp only [decide_eq_true_eq, decide_eq_false_iff_not, Bool.not_eq_true', Bool.not_eq_false', Bool.not_eq_eq_eq_not, Bool.not_true, Bool.not_false, Bool.and_eq_true, Bool.or_eq_true, Bool.or_eq_false_iff, beq_iff_eq, beq_eq_false_iff_ne, ne_eq, Int.not_lt, Int.not_le, Decidable.not_not] at hc34
     obtain ⟨x, hx⟩ := get_some (l := l) (k := k) (by omega)
     have hxm := mem_get hx
     refine g_skip ?_
     refine g_next hK10 ?_
     refine g_seq (fun K12 hK12 => ?_)
     refine g_block ?_
     refine g_seq (fun K13 hK13 => ?_)
     refine g_region ?_
     refine g_step rfl (s_val (v_move rfl) rfl rfl ?_)
     refine g_step rfl (s_val (v_move rfl) rfl rfl ?_)
     refine g_step rfl (s_val (v_indexAddr ty60 ty66 rfl rfl (by first | rfl | assumption) (by first | rfl | exact (rfl : (0 : Int) = ((0 : Nat) : Int)) | exact (Int.toNat_of_nonneg (by omega)).symm) (by first | assumption | exact map_get (by assumption) | rfl) rfl) rfl rfl ?_)
     refine g_step rfl (s_val (by first | exact v_load_elt ty66 rfl rfl (by first | rfl | assumption) (by first | assumption | exact map_get (by assumption) | rfl) rfl rfl | exact v_load_box_all ty66 rfl rfl (by assumption) rfl rfl | exact v_load_part (cs := [_, _, _, _, _]) ty66 rfl rfl (by first | rfl | assumption) (by first | assumption | exact map_get (by assumption) | rfl) rfl rfl rfl | exact v_load_box_part (cs := [_, _, _, _, _]) ty66 rfl rfl (by assumption) rfl rfl rfl) rfl rfl ?_)
     refine g_step rfl (s_alloc (av := (.agg [(.int .i64 0), (.int .i64 0), (.int .i64 0), (.int .i64 0), .nil0])) ty66 rfl rfl rfl rfl ?_)
     refine g_step rfl (s_store_all ty66 rfl rfl rfl rfl rfl rfl ?_)
     refine g_nil ?_
     refine g_next hK13 ?_
     refine g_seq (fun K14 hK14 => ?_)
     refine g_seq (fun K15 hK15 => ?_)
     refine g_region ?_
     refine g_step rfl (s_fieldAddr ty66 fo66_4 ty64 rfl rfl ?_)
     refine g_step rfl (s_val (v_loadl ty64 rfl rfl rfl rfl) rfl rfl ?_)
     refine g_step rfl (s_callp rfl rfl rfl (fewL_ok x.now _ _ rfl (hh x hxm) (hb x hxm)) ?_)
     rintro _ rfl
     refine g_step rfl (s_val (v_not rfl) rfl rfl ?_)
     refine g_step rfl (s_val (v_move rfl) rfl rfl ?_)
     refine g_split 45 rfl (fun hg45 => ?_) (fun hg45 => ?_)
     ·
      try simp only [decide_eq_true_eq, decide_eq_false_iff_not, Bool.not_eq_true', Bool.not_eq_false', Bool.not_eq_eq_eq_not, Bool.not_true, Bool.not_false, Bool.and_eq_true, Bool.or_eq_true, Bool.or_eq_false_iff, beq_iff_eq, beq_eq_false_iff_ne, ne_eq, Int.not_lt, Int.not_le, Decidable.not_not] at hg45
      refine g_step_no (j := 4) (t := 45) rfl rfl rfl rfl rfl rfl rfl ?_
      refine g_step_no (j := 4) (t := 45) rfl rfl rfl rfl rfl rfl rfl ?_
      refine g_step_no (j := 4) (t := 45) rfl rfl rfl rfl rfl rfl rfl ?_
      refine g_step rfl (s_val (v_pick_t rfl rfl) rfl rfl ?_)
      refine g_step rfl (s_val (v_move rfl) rfl rfl ?_)
      refine g_step_no (j := 9) (t := 50) rfl rfl rfl rfl rfl rfl rfl ?_
      refine g_step_no (j := 9) (t := 50) rfl rfl rfl rfl rfl rfl rfl ?_
      refine g_step_no (j := 9) (t := 50) rfl rfl rfl rfl rfl rfl rfl ?_
      refine g_step rfl (s_val (v_pick_t rfl rfl) rfl rfl ?_)
      refine g_nil ?_
      refine g_next hK15 ?_
      first | refine g_keep [0, 1, 5, 6, 7, 54] [8] [8] (keep_cons rfl (keep_cons rfl (keep_cons rfl (keep_cons rfl (keep_cons rfl (keep_cons rfl keep_nil)))))) (lkeep_cons rfl lkeep_nil) (keep_cons rfl keep_nil) rfl ?_ | refine g_keep [0, 1, 5, 6, 7, 54] [8] [8] rfl rfl rfl rfl ?_
      refine g_cond rfl (fun _ => ?_) (fun h => by cases h)
      refine g_seq (fun K16 hK16 => ?_)
      refine g_region ?_
      refine g_step rfl (s_callp rfl rfl rfl (awake26_ok _) ?_)
      rintro _ rfl
      refine g_step rfl (s_val (v_assign rfl) rfl rfl ?_)
      refine g_nil ?_
      refine g_next hK16 ?_
      refine g_ret ?_
      refine g_then_ret ?_
      refine g_block_ret ?_
      refine g_then_ret ?_
      refine g_then_ret ?_
      refine g_block_ret ?_
      refine g_then_ret ?_
      refine g_end1 (.inl rfl) Try.results7 (.tmp rfl) [] (ASub.refl _) (by first | exact hs_H | exact hs_H1 | exact AHeap.sub_refl _) (fun p hp => by cases hp) ⟨rfl, ?_⟩
      rfl
     ·
      try simp only [decide_eq_true_eq, decide_eq_false_iff_not, Bool.not_eq_true', Bool.not_eq_false', Bool.not_eq_eq_eq_not, Bool.not_true, Bool.not_false, Bool.and_eq_true, Bool.or_eq_true, Bool.or_eq_false_iff, beq_iff_eq, beq_eq_false_iff_ne, ne_eq, Int.not_lt, Int.not_le, Decidable.not_not] at hg45
      refine g_step_yes (j := 4) (t := 45) rfl rfl rfl rfl (s_fieldAddr ty66 fo66_1 ty3 rfl rfl ?_)
      refine g_step_yes (j := 4) (t := 45) rfl rfl rfl rfl (s_val (v_loadl ty3 rfl rfl rfl rfl) rfl rfl ?_)
      refine g_step_yes (j := 4) (t := 45) rfl rfl rfl rfl (s_val (v_lss rfl rfl) rfl rfl ?_)
      refine g_step rfl (s_val (v_pick_f rfl rfl) rfl rfl ?_)
      refine g_step rfl (s_val (v_move rfl) rfl rfl ?_)
      refine g_split 50 rfl (fun hg50 => ?_) (fun hg50 => ?_)
      ·
       try simp only [decide_eq_true_eq, decide_eq_false_iff_not, Bool.not_eq_true', Bool.not_eq_false', Bool.not_eq_eq_eq_not, Bool.not_true, Bool.not_false, Bool.and_eq_true, Bool.or_eq_true, Bool.or_eq_false_iff, beq_iff_eq, beq_eq_false_iff_ne, ne_eq, Int.not_lt, Int.not_le, Decidable.not_not] at hg50
       refine g_step_no (j := 9) (t := 50) rfl rfl rfl rfl rfl rfl rfl ?_
       refine g_step_no (j := 9) (t := 50) rfl rfl rfl rfl rfl rfl rfl ?_
       refine g_step_no (j := 9) (t := 50) rfl rfl rfl rfl rfl rfl rfl ?_
       refine g_step rfl (s_val (v_pick_t rfl rfl) rfl rfl ?_)
       refine g_nil ?_
       refine g_next hK15 ?_
       first | refine g_keep [0, 1, 5, 6, 7, 54] [8] [8] (keep_cons rfl (keep_cons rfl (keep_cons rfl (keep_cons rfl (keep_cons rfl (keep_cons rfl keep_nil)))))) (lkeep_cons rfl lkeep_nil) (keep_cons rfl keep_nil) rfl ?_ | refine g_keep [0, 1, 5, 6, 7, 54] [8] [8] rfl rfl rfl rfl ?_
       refine g_cond rfl (fun _ => ?_) (fun h => by cases h)
       refine g_seq (fun K17 hK17 => ?_)
       refine g_region ?_
       refine g_step rfl (s_callp rfl rfl rfl (awake26_ok _) ?_)
       rintro _ rfl
       refine g_step rfl (s_val (v_assign rfl) rfl rfl ?_)
       refine g_nil ?_
       refine g_next hK17 ?_
       refine g_ret ?_
       refine g_then_ret ?_
       refine g_block_ret ?_
       refine g_then_ret ?_
       refine g_then_ret ?_
       refine g_block_ret ?_
       refine g_then_ret ?_
       refine g_end1 (.inl rfl) Try.results7 (.tmp rfl) [] (ASub.refl _) (by first | exact hs_H | exact hs_H1 | exact AHeap.sub_refl _) (fun p hp => by cases hp) ⟨rfl, ?_⟩
       rfl
      ·
       try simp only [decide_eq_true_eq, decide_eq_false_iff_not, Bool.not_eq_true', Bool.not_eq_false', Bool.not_eq_eq_eq_not, Bool.not_true, Bool.not_false, Bool.and_eq_true, Bool.or_eq_true, Bool.or_eq_false_iff, beq_iff_eq, beq_eq_false_iff_ne, ne_eq, Int.not_lt, Int.not_le, Decidable.not_not] at hg50
       refine g_step_yes (j := 9) (t := 50) rfl rfl rfl rfl (s_fieldAddr ty66 fo66_1 ty3 rfl rfl ?_)
       refine g_step_yes (j := 9) (t := 50) rfl rfl rfl rfl (s_val (v_loadl ty3 rfl rfl rfl rfl) rfl rfl ?_)
       refine g_step_yes (j := 9) (t := 50) rfl rfl rfl rfl (s_val (v_gtr rfl rfl) rfl rfl ?_)
       refine g_step rfl (s_val (v_pick_f rfl rfl) rfl rfl ?_)
       refine g_nil ?_
       refine g_next hK15 ?_
       refine g_cond rfl (fun hc54 => ?_) (fun hc54 => ?_)
       ·
        try simp only [decide_eq_true_eq, decide_eq_false_iff_not, Bool.not_eq_true', Bool.not_eq_false', Bool.not_eq_eq_eq_not, Bool.not_true, Bool.not_false, Bool.and_eq_true, Bool.or_eq_true, Bool.or_eq_false_iff, beq_iff_eq, beq_eq_false_iff_ne, ne_eq, Int.not_lt, Int.not_le, Decidable.not_not] at hc54
        refine g_seq (fun K18 hK18 => ?_)
        refine g_region ?_
        refine g_step rfl (s_callp rfl rfl rfl (awake26_ok _) ?_)
        rintro _ rfl
        refine g_step rfl (s_val (v_assign rfl) rfl rfl ?_)
        refine g_nil ?_
        refine g_next hK18 ?_
        first | refine g_keep [4] [] [] (keep_cons rfl keep_nil) lkeep_nil keep_nil rfl ?_ | refine g_keep [4] [] [] rfl rfl rfl rfl ?_
        refine g_ret ?_
        refine g_then_ret ?_
        refine g_block_ret ?_
        refine g_then_ret ?_
        refine g_then_ret ?_
        refine g_block_ret ?_
        refine g_then_ret ?_
        refine g_end1 (.inl rfl) Try.results7 (.tmp rfl) [] (ASub.refl _) (by first | exact hs_H | exact hs_H1 | exact AHeap.sub_refl _) (fun p hp => by cases hp) ⟨rfl, ?_⟩
        rfl
       ·
        try simp only [decide_eq_true_eq, decide_eq_false_iff_not, Bool.not_eq_true', Bool.not_eq_false', Bool.not_eq_eq_eq_not, Bool.not_true, Bool.not_false, Bool.and_eq_true, Bool.or_eq_true, Bool.or_eq_false_iff, beq_iff_eq, beq_eq_false_iff_ne, ne_eq, Int.not_lt, Int.not_le, Decidable.not_not] at hc54
        obtain ⟨hn20, hns⟩ := fewL_small (l := x.now) (by simpa using hg45)
        obtain ⟨j, hj⟩ := Int.eq_ofNat_of_zero_le (show 0 ≤ x.peer by omega)
        have hle : x.peer ≤ 1 := by omega
        have hpe := pair_at f hj hle
        have hSp : SInv k (f x.peer) := pair_inv hS0 hS1 (by omega) hle
        have hlp := hSp.last
        have hwl := hSp.wlen
        refine g_skip ?_
        refine g_next hK14 ?_
        refine g_seq (fun K19 hK19 => ?_)
        refine g_region ?_
        refine g_step rfl (s_val (v_move rfl) rfl rfl ?_)
        refine g_step rfl (s_fieldAddr ty66 fo66_1 ty3 rfl rfl ?_)
        refine g_step rfl (s_val (v_loadl ty3 rfl rfl rfl rfl) rfl rfl ?_)
        refine g_step rfl (s_val (v_indexAddr ty63 ty72 rfl rfl (AV.view_own_all hrm rfl) hj hpe rfl) rfl rfl ?_)
        refine g_step rfl (s_val (by first | exact v_load_elt ty72 rfl rfl (AV.view_own_all hrm rfl) hpe rfl rfl | exact v_load_box_all ty72 rfl rfl (by assumption) rfl rfl | exact v_load_part (cs := [_, _, _, _]) ty72 rfl rfl (AV.view_own_all hrm rfl) hpe rfl rfl rfl | exact v_load_box_part (cs := [_, _, _, _]) ty72 rfl rfl (by assumption) rfl rfl rfl) rfl rfl ?_)
        refine g_step rfl (s_alloc (av := (.agg [(.int .i64 0), (.int .i64 0), .nil0, .nil0])) ty72 rfl rfl rfl rfl ?_)
        refine g_step rfl (s_store_all ty72 rfl rfl rfl rfl rfl rfl ?_)
        refine g_nil ?_
        refine g_next hK19 ?_
        first | refine g_keep [0, 1, 5, 6, 7] [8, 9] [8, 9] (keep_cons rfl (keep_cons rfl (keep_cons rfl (keep_cons rfl (keep_cons rfl keep_nil))))) (lkeep_cons rfl (lkeep_cons rfl lkeep_nil)) (keep_cons rfl (keep_cons rfl keep_nil)) rfl ?_ | refine g_keep [0, 1, 5, 6, 7] [8, 9] [8, 9] rfl rfl rfl rfl ?_
        refine g_cut (fun env L B G => ∃ (s1 : Snt) (h1 : AHeap) (j : Nat), env = [(0, .int .i64 life), (1, .imm (l.map encOA)), (5, .box p 0), (6, .own r30 4 0 2), (7, .int .i64 (k : Int))] ∧ L = [(8, 8, 0), (9, 9, 0)] ∧ B = [(8, (encOA x)), (9, (encOP s1))] ∧ OutIs h1 p r life (upd f x.peer s1) ∧ h1.sub G ∧ (∀ b, h1 b ≠ none → w0.heap.size ≤ b) ∧ H.sub G ∧ h1 r30 = none ∧ G r30 = some (.row 4 ([f 0, f 1].map encOP)) ∧ SInv (k + 1) s1 ∧ x.peer = (j : Int) ∧ x.peer ≤ 1) ?_ (fun env L B G hI => ?_)
        ·
         refine g_seq (fun K20 hK20 => ?_)
         refine g_region ?_
         refine g_step rfl (s_fieldAddr ty66 fo66_0 ty3 rfl rfl ?_)
         refine g_step rfl (s_val (v_loadl ty3 rfl rfl rfl rfl) rfl rfl ?_)
         refine g_step rfl (s_val (v_eql rfl rfl) rfl rfl ?_)
         refine g_nil ?_
         refine g_next hK20 ?_
         refine g_cond rfl (fun hc63 => ?_) (fun hc63 => ?_)
         ·
          try simp only [decide_eq_true_eq, decide_eq_false_iff_not, Bool.not_eq_true', Bool.not_eq_false', Bool.not_eq_eq_eq_not, Bool.not_true, Bool.not_false, Bool.and_eq_true, Bool.or_eq_true, Bool.or_eq_false_iff, beq_iff_eq, beq_eq_false_iff_ne, ne_eq, Int.not_lt, Int.not_le, Decidable.not_not] at hc63
          refine g_seq (fun K21 hK21 => ?_)
          refine g_region ?_
          rcases hsn : srt x.now with _ | _
          ·
           refine g_step rfl (s_val (v_move rfl) rfl rfl ?_)
           refine g_step rfl (s_fieldAddr ty66 fo66_1 ty3 rfl rfl ?_)
           refine g_step rfl (s_val (v_loadl ty3 rfl rfl rfl rfl) rfl rfl ?_)
           refine g_step rfl (s_fieldAddr ty66 fo66_4 ty64 rfl rfl ?_)
           refine g_step rfl (s_val (v_loadl ty64 rfl rfl rfl rfl) rfl rfl ?_)
           refine g_step rfl (s_call rfl rfl rfl (oNext_ok h p r life f x.peer x.now (by omega) hns _ hO hs (hSp.ok (by omega))) (fun b hb => .inr (hab b hb)) ?_)
           rintro n2 v2 effs2 hn2 hdom2 ⟨hv2, h1, hE2, hO1⟩ hok2
           rw [if_neg (by simp [hsn])] at hv2 hO1
           subst hv2
           rw [upd_id] at hO1
           have hs1 := hE2.within hs
           have hab1 := hE2.above hn2 hab
           have hs_H1 := hE2.frame hdom2 hs_H (fun b hb => hw0 b (hab b hb))
           obtain ⟨hrm1, hhr1⟩ := hE2.keep_one hdom2 hrm hhr
           generalize hG1 : setAll G effs2 = G1
           rw [hG1] at hs1 hs_H1 hrm1
           refine g_step rfl (s_val (v_move rfl) rfl rfl ?_)
           refine g_step rfl (s_val (v_extract rfl rfl) rfl rfl ?_)
           refine g_step rfl (s_val (v_extract rfl rfl) rfl rfl ?_)
           refine g_step rfl (s_val (v_extract rfl rfl) rfl rfl ?_)
           refine g_step rfl (s_val (v_assign rfl) rfl rfl ?_)
           refine g_step rfl (s_val (v_assign rfl) rfl rfl ?_)
           refine g_step rfl (s_val (v_assign rfl) rfl rfl ?_)
           refine g_nil ?_
           refine g_next hK21 ?_
           refine g_seq (fun K22 hK22 => ?_)
           refine g_seq (fun K23 hK23 => ?_)
           refine g_region ?_
           refine g_step rfl (s_fieldAddr ty66 fo66_4 ty64 rfl rfl ?_)
           refine g_step rfl (s_val (v_loadl ty64 rfl rfl rfl rfl) rfl rfl ?_)
           refine g_step rfl (s_callp rfl rfl rfl (sorted_ok x.now _ (by omega) hns) ?_)
           rintro _ rfl
           rw [hsn]
           refine g_step rfl (s_val (v_not rfl) rfl rfl ?_)
           refine g_nil ?_
           refine g_next hK23 ?_
           refine g_cond rfl (fun hc77 => ?_) (fun hc77 => ?_)
           ·
            try simp only [decide_eq_true_eq, decide_eq_false_iff_not, Bool.not_eq_true', Bool.not_eq_false', Bool.not_eq_eq_eq_not, Bool.not_true, Bool.not_false, Bool.and_eq_true, Bool.or_eq_true, Bool.or_eq_false_iff, beq_iff_eq, beq_eq_false_iff_ne, ne_eq, Int.not_lt, Int.not_le, Decidable.not_not] at hc77
            refine g_seq (fun K24 hK24 => ?_)
            refine g_seq (fun K25 hK25 => ?_)
            refine g_region ?_
            refine g_step rfl (s_val (v_move rfl) rfl rfl ?_)
            refine g_step rfl (s_val (v_neq rfl rfl) rfl rfl ?_)
            refine g_step rfl (s_val (v_move rfl) rfl rfl ?_)
            refine g_split 80 rfl (fun hg80 => ?_) (fun hg80 => ?_)
            · exfalso; (try simp only [decide_eq_true_eq, decide_eq_false_iff_not, Bool.not_eq_true', Bool.not_eq_false', Bool.not_eq_eq_eq_not, Bool.not_true, Bool.not_false, Bool.and_eq_true, Bool.or_eq_true, Bool.or_eq_false_iff, beq_iff_eq, beq_eq_false_iff_ne, ne_eq, Int.not_lt, Int.not_le, Decidable.not_not] at hg80); first | simp at hg80 | exact hg80 rfl
            ·
             try simp only [decide_eq_true_eq, decide_eq_false_iff_not, Bool.not_eq_true', Bool.not_eq_false', Bool.not_eq_eq_eq_not, Bool.not_true, Bool.not_false, Bool.and_eq_true, Bool.or_eq_true, Bool.or_eq_false_iff, beq_iff_eq, beq_eq_false_iff_ne, ne_eq, Int.not_lt, Int.not_le, Decidable.not_not] at hg80
             refine g_step_yes (j := 2) (t := 80) rfl rfl rfl rfl (s_val (v_move rfl) rfl rfl ?_)
             refine g_step_yes (j := 2) (t := 80) rfl rfl rfl rfl (s_val (v_neq rfl rfl) rfl rfl ?_)
             refine g_step rfl (s_val (v_pick_f rfl rfl) rfl rfl ?_)
             refine g_step rfl (s_val (v_move rfl) rfl rfl ?_)
             refine g_split 84 rfl (fun hg84 => ?_) (fun hg84 => ?_)
             · exfalso; (try simp only [decide_eq_true_eq, decide_eq_false_iff_not, Bool.not_eq_true', Bool.not_eq_false', Bool.not_eq_eq_eq_not, Bool.not_true, Bool.not_false, Bool.and_eq_true, Bool.or_eq_true, Bool.or_eq_false_iff, beq_iff_eq, beq_eq_false_iff_ne, ne_eq, Int.not_lt, Int.not_le, Decidable.not_not] at hg84); first | simp at hg84 | exact hg84 rfl
             ·
              try simp only [decide_eq_true_eq, decide_eq_false_iff_not, Bool.not_eq_true', Bool.not_eq_false', Bool.not_eq_eq_eq_not, Bool.not_true, Bool.not_false, Bool.and_eq_true, Bool.or_eq_true, Bool.or_eq_false_iff, beq_iff_eq, beq_eq_false_iff_ne, ne_eq, Int.not_lt, Int.not_le, Decidable.not_not] at hg84
              refine g_step_yes (j := 6) (t := 84) rfl rfl rfl rfl (s_val (v_move rfl) rfl rfl ?_)
              refine g_step_yes (j := 6) (t := 84) rfl rfl rfl rfl (s_val (v_len ty64 rfl (by first | rfl | assumption) (by first | exact List.length_map .. | rfl)) rfl rfl ?_)
              refine g_step_yes (j := 6) (t := 84) rfl rfl rfl rfl (s_val (v_neq rfl rfl) rfl rfl ?_)
              refine g_step rfl (s_val (v_pick_f rfl rfl) rfl rfl ?_)
              refine g_nil ?_
              refine g_next hK25 ?_
              first | refine g_keep [0, 1, 5, 6, 7, 88] [] [] (keep_cons rfl (keep_cons rfl (keep_cons rfl (keep_cons rfl (keep_cons rfl (keep_cons rfl keep_nil)))))) lkeep_nil keep_nil rfl ?_ | refine g_keep [0, 1, 5, 6, 7, 88] [] [] rfl rfl rfl rfl ?_
              refine g_cond rfl (fun hc88 => ?_) (fun hc88 => ?_)
              · exfalso; (try simp only [decide_eq_true_eq, decide_eq_false_iff_not, Bool.not_eq_true', Bool.not_eq_false', Bool.not_eq_eq_eq_not, Bool.not_true, Bool.not_false, Bool.and_eq_true, Bool.or_eq_true, Bool.or_eq_false_iff, beq_iff_eq, beq_eq_false_iff_ne, ne_eq, Int.not_lt, Int.not_le, Decidable.not_not] at hc88); first | simp at hc88 | exact hc88 rfl
              ·
               try simp only [decide_eq_true_eq, decide_eq_false_iff_not, Bool.not_eq_true', Bool.not_eq_false', Bool.not_eq_eq_eq_not, Bool.not_true, Bool.not_false, Bool.and_eq_true, Bool.or_eq_true, Bool.or_eq_false_iff, beq_iff_eq, beq_eq_false_iff_ne, ne_eq, Int.not_lt, Int.not_le, Decidable.not_not] at hc88
               refine g_skip ?_
               refine g_next hK24 ?_
               refine g_exit ?_
               refine g_then_exit ?_
               refine g_then_exit ?_
               refine g_block_same ?_
               refine g_next hK12 ?_
               refine g_region ?_
               refine g_step rfl (s_val (v_move rfl) rfl rfl ?_)
               refine g_step rfl (s_val (v_add rfl rfl (by omega)) rfl rfl ?_)
               refine g_step rfl (s_val (v_assign rfl) rfl rfl ?_)
               refine g_nil ?_
               first | refine g_keep [0, 1, 5, 6, 7] [] [] (keep_cons rfl (keep_cons rfl (keep_cons rfl (keep_cons rfl (keep_cons rfl keep_nil))))) lkeep_nil keep_nil rfl ?_ | refine g_keep [0, 1, 5, 6, 7] [] [] rfl rfl rfl rfl ?_
               first | exact g_round _ (by omega) ⟨k + 1, upd f x.peer s1, h1, by omega, rfl, rfl, rfl, rfl, ⟨hO1, sub_set' hs1 hhr1, hab1, sub_set' hs_H1 hHr30, hhr1, AHeap.get_set _ _ _, upd_inv hS0 hSs, upd_inv hS1 hSs⟩⟩ | exact g_round _ (by omega) ⟨k + 1, f, h1, by omega, rfl, rfl, rfl, rfl, ⟨hO1, hs1, hab1, hs_H1, hhr1, hrm1, hS0.mono (by omega), hS1.mono (by omega)⟩⟩
           · exfalso; (try simp only [decide_eq_true_eq, decide_eq_false_iff_not, Bool.not_eq_true', Bool.not_eq_false', Bool.not_eq_eq_eq_not, Bool.not_true, Bool.not_false, Bool.and_eq_true, Bool.or_eq_true, Bool.or_eq_false_iff, beq_iff_eq, beq_eq_false_iff_ne, ne_eq, Int.not_lt, Int.not_le, Decidable.not_not] at hc77); simp at hc77
          ·
           refine g_step rfl (s_val (v_move rfl) rfl rfl ?_)
           refine g_step rfl (s_fieldAddr ty66 fo66_1 ty3 rfl rfl ?_)
           refine g_step rfl (s_val (v_loadl ty3 rfl rfl rfl rfl) rfl rfl ?_)
           refine g_step rfl (s_fieldAddr ty66 fo66_4 ty64 rfl rfl ?_)
           refine g_step rfl (s_val (v_loadl ty64 rfl rfl rfl rfl) rfl rfl ?_)
           refine g_step rfl (s_call rfl rfl rfl (oNext_ok h p r life f x.peer x.now (by omega) hns _ hO hs (hSp.ok (by omega))) (fun b hb => .inr (hab b hb)) ?_)
           rintro n2 v2 effs2 hn2 hdom2 ⟨hv2, h1, hE2, hO1⟩ hok2
           rw [if_pos hsn] at hv2 hO1
           subst hv2
           have hs1 := hE2.within hs
           have hab1 := hE2.above hn2 hab
           have hs_H1 := hE2.frame hdom2 hs_H (fun b hb => hw0 b (hab b hb))
           obtain ⟨hrm1, hhr1⟩ := hE2.keep_one hdom2 hrm hhr
           generalize hG1 : setAll G effs2 = G1
           rw [hG1] at hs1 hs_H1 hrm1
           refine g_step rfl (s_val (v_move rfl) rfl rfl ?_)
           refine g_step rfl (s_val (v_extract rfl rfl) rfl rfl ?_)
           refine g_step rfl (s_val (v_extract rfl rfl) rfl rfl ?_)
           refine g_step rfl (s_val (v_extract rfl rfl) rfl rfl ?_)
           refine g_step rfl (s_val (v_assign rfl) rfl rfl ?_)
           refine g_step rfl (s_val (v_assign rfl) rfl rfl ?_)
           refine g_step rfl (s_val (v_assign rfl) rfl rfl ?_)
           refine g_nil ?_
           refine g_next hK21 ?_
           refine g_seq (fun K26 hK26 => ?_)
           refine g_seq (fun K27 hK27 => ?_)
           refine g_region ?_
           refine g_step rfl (s_fieldAddr ty66 fo66_4 ty64 rfl rfl ?_)
           refine g_step rfl (s_val (v_loadl ty64 rfl rfl rfl rfl) rfl rfl ?_)
           refine g_step rfl (s_callp rfl rfl rfl (sorted_ok x.now _ (by omega) hns) ?_)
           rintro _ rfl
           rw [hsn]
           refine g_step rfl (s_val (v_not rfl) rfl rfl ?_)
           refine g_nil ?_
           refine g_next hK27 ?_
           refine g_cond rfl (fun hc77 => ?_) (fun hc77 => ?_)
           · exfalso; (try simp only [decide_eq_true_eq, decide_eq_false_iff_not, Bool.not_eq_true', Bool.not_eq_false', Bool.not_eq_eq_eq_not, Bool.not_true, Bool.not_false, Bool.and_eq_true, Bool.or_eq_true, Bool.or_eq_false_iff, beq_iff_eq, beq_eq_false_iff_ne, ne_eq, Int.not_lt, Int.not_le, Decidable.not_not] at hc77); simp at hc77
           ·
            try simp only [decide_eq_true_eq, decide_eq_false_iff_not, Bool.not_eq_true', Bool.not_eq_false', Bool.not_eq_eq_eq_not, Bool.not_true, Bool.not_false, Bool.and_eq_true, Bool.or_eq_true, Bool.or_eq_false_iff, beq_iff_eq, beq_eq_false_iff_ne, ne_eq, Int.not_lt, Int.not_le, Decidable.not_not] at hc77
            refine g_skip ?_
            refine g_next hK26 ?_
            refine g_cut (fun env L B G => ∃ (nb : BRow) (h1 : AHeap), env = [(0, .int .i64 life), (1, .imm (l.map encOA)), (5, .box p 0), (6, .own r30 4 0 2), (7, .int .i64 (k : Int)), (10, .int .i64 ((f x.peer).last + 1)), (11, .int .i64 (nextBase (f x.peer) x.now).epoch), (12, (encRs (nextBase (f x.peer) x.now).recs))] ∧ L = [(8, 8, 0), (9, 9, 0)] ∧ B = [(8, (encOA x)), (9, (encOP ⟨(f x.peer).last, nb, (f x.peer).waits⟩))] ∧ nb = (nextBase (f x.peer) x.now) ∧ OutIs h1 p r life (upd f x.peer (nextF (f x.peer) x.now)) ∧ h1.sub G ∧ (∀ b, h1 b ≠ none → w0.heap.size ≤ b) ∧ H.sub G ∧ h1 r30 = none ∧ G r30 = some (.row 4 ([f 0, f 1].map encOP)) ∧ srt x.now = true) ?_ (fun env L B G hI => ?_)
            ·
             refine g_seq (fun K28 hK28 => ?_)
             refine g_region ?_
             refine g_step rfl (s_fieldAddr ty72 fo72_1 ty69 rfl rfl ?_)
             refine g_step rfl (s_fieldAddr ty69 fo69_1 ty64 rfl rfl ?_)
             refine g_step rfl (s_val (v_loadl ty64 rfl rfl rfl rfl) rfl rfl ?_)
             refine g_step rfl (s_fieldAddr ty66 fo66_4 ty64 rfl rfl ?_)
             refine g_step rfl (s_val (v_loadl ty64 rfl rfl rfl rfl) rfl rfl ?_)
             refine g_step rfl (s_callp rfl rfl rfl (gone26_ok (f x.peer).base.recs x.now _ (Nat.le_trans hSp.base.1 (by decide)) (by omega) hns) ?_)
             rintro _ rfl
             refine g_nil ?_
             refine g_next hK28 ?_
             refine g_cond rfl (fun hc94 => ?_) (fun hc94 => ?_)
             ·
              try simp only [decide_eq_true_eq, decide_eq_false_iff_not, Bool.not_eq_true', Bool.not_eq_false', Bool.not_eq_eq_eq_not, Bool.not_true, Bool.not_false, Bool.and_eq_true, Bool.or_eq_true, Bool.or_eq_false_iff, beq_iff_eq, beq_eq_false_iff_ne, ne_eq, Int.not_lt, Int.not_le, Decidable.not_not] at hc94
              refine g_region ?_
              refine g_step rfl (s_val (v_sub (b := (encW b0)) (v_build (vs := []) (zs := [(.int .i64 0), .nil0]) (cells := [_, _]) ty69 pl69 rfl rfl rfl) (ASub.agg (m := [.int .i64 0, .imm []]) ⟨ASub.refl _, ASub.nil0, trivial⟩)) rfl rfl ?_)
              refine g_step rfl (s_fieldAddr ty72 fo72_1 ty69 rfl rfl ?_)
              refine g_step rfl (s_store (new := (encOP ⟨(f x.peer).last, b0, (f x.peer).waits⟩)) ty69 rfl rfl rfl rfl rfl rfl rfl ?_)
              refine g_nil ?_
              first | refine g_keep [0, 1, 5, 6, 7, 10, 11, 12] [8, 9] [8, 9] (keep_cons rfl (keep_cons rfl (keep_cons rfl (keep_cons rfl (keep_cons rfl (keep_cons rfl (keep_cons rfl (keep_cons rfl keep_nil)))))))) (lkeep_cons rfl (lkeep_cons rfl lkeep_nil)) (keep_cons rfl (keep_cons rfl keep_nil)) rfl ?_ | refine g_keep [0, 1, 5, 6, 7, 10, 11, 12] [8, 9] [8, 9] rfl rfl rfl rfl ?_
              first | exact g_has ⟨b0, h1, rfl, rfl, rfl, ⟨by rw [nextBase_gone hSp.base.2.2 hsn, if_pos hc94], hO1, hs1, hab1, hs_H1, hhr1, hrm1, hsn⟩⟩ | exact g_has ⟨(f x.peer).base, h1, rfl, rfl, rfl, ⟨by rw [nextBase_gone hSp.base.2.2 hsn, if_neg (by simp [hc94])], hO1, hs1, hab1, hs_H1, hhr1, hrm1, hsn⟩⟩
             ·
              try simp only [decide_eq_true_eq, decide_eq_false_iff_not, Bool.not_eq_true', Bool.not_eq_false', Bool.not_eq_eq_eq_not, Bool.not_true, Bool.not_false, Bool.and_eq_true, Bool.or_eq_true, Bool.or_eq_false_iff, beq_iff_eq, beq_eq_false_iff_ne, ne_eq, Int.not_lt, Int.not_le, Decidable.not_not] at hc94
              refine g_skip ?_
              first | refine g_keep [0, 1, 5, 6, 7, 10, 11, 12] [8, 9] [8, 9] (keep_cons rfl (keep_cons rfl (keep_cons rfl (keep_cons rfl (keep_cons rfl (keep_cons rfl (keep_cons rfl (keep_cons rfl keep_nil)))))))) (lkeep_cons rfl (lkeep_cons rfl lkeep_nil)) (keep_cons rfl (keep_cons rfl keep_nil)) rfl ?_ | refine g_keep [0, 1, 5, 6, 7, 10, 11, 12] [8, 9] [8, 9] rfl rfl rfl rfl ?_
              first | exact g_has ⟨b0, h1, rfl, rfl, rfl, ⟨by rw [nextBase_gone hSp.base.2.2 hsn, if_pos hc94], hO1, hs1, hab1, hs_H1, hhr1, hrm1, hsn⟩⟩ | exact g_has ⟨(f x.peer).base, h1, rfl, rfl, rfl, ⟨by rw [nextBase_gone hSp.base.2.2 hsn, if_neg (by simp [hc94])], hO1, hs1, hab1, hs_H1, hhr1, hrm1, hsn⟩⟩
            ·
             obtain ⟨nb, h1, rfl, rfl, rfl, hnb, hO1, hs1, hab1, hs_H1, hhr1, hrm1, hsn⟩ := hI
             subst hnb
             refine g_seq (fun K29 hK29 => ?_)
             refine g_region ?_
             refine g_step rfl (s_fieldAddr ty72 fo72_0 ty3 rfl rfl ?_)
             refine g_step rfl (s_val (v_loadl ty3 rfl rfl rfl rfl) rfl rfl ?_)
             refine g_step rfl (s_val (v_add rfl rfl (by dsimp only; omega)) rfl rfl ?_)
             refine g_step rfl (s_fieldAddr ty72 fo72_0 ty3 rfl rfl ?_)
             refine g_step rfl (s_store (new := (encOP ⟨(f x.peer).last + 1, (nextBase (f x.peer) x.now), (f x.peer).waits⟩)) ty3 rfl rfl rfl rfl rfl rfl rfl ?_)
             refine g_nil ?_
             refine g_next hK29 ?_
             refine g_cut (fun env L B G => ∃ (h1 : AHeap), env = [(0, .int .i64 life), (1, .imm (l.map encOA)), (5, .box p 0), (6, .own r30 4 0 2), (7, .int .i64 (k : Int)), (10, .int .i64 ((f x.peer).last + 1)), (11, .int .i64 (nextBase (f x.peer) x.now).epoch), (12, (encRs (nextBase (f x.peer) x.now).recs))] ∧ L = [(8, 8, 0), (9, 9, 0)] ∧ B = [(8, (encOA x)), (9, (encOP ⟨(f x.peer).last + 1, (nextBase (f x.peer) x.now), ((f x.peer).waits ++ [(⟨x.now, (f x.peer).last + 1⟩ : BRow)])⟩))] ∧ OutIs h1 p r life (upd f x.peer (nextF (f x.peer) x.now)) ∧ h1.sub G ∧ (∀ b, h1 b ≠ none → w0.heap.size ≤ b) ∧ H.sub G ∧ h1 r30 = none ∧ G r30 = some (.row 4 ([f 0, f 1].map encOP)) ∧ srt x.now = true) ?_ (fun env L B G hI => ?_)
             ·
              refine g_draw (n := 13) (fun j => !([3, 10, 12] : List Nat).contains j) rfl rfl ?_
              refine m_takel 1 rfl rfl (by kernel_rfl) (by kernel_rfl) (by kernel_rfl) (fun _ _ _ _ h => h) (vl_fieldAddr ty72 fo72_2 ty70 rfl) rfl rfl ?_
              refine m_takel 4 rfl rfl (by kernel_rfl) (by kernel_rfl) (by kernel_rfl) (fun _ _ _ _ h => h) (vl_fieldAddr ty72 fo72_0 ty3 rfl) rfl rfl ?_
              refine m_takel 6 rfl rfl (by kernel_rfl) (by kernel_rfl) (by kernel_rfl) (fun _ _ _ _ h => h) (vl_fieldAddr ty66 fo66_4 ty64 rfl) rfl rfl ?_
              refine m_all (is := [0, 2, 5, 7]) (by kernel_rfl) rfl (fun _ _ _ => trivial) (fun i hi => ?_)
              rcases (by simpa using hi : i = 0 ∨ i = 2 ∨ i = 5 ∨ i = 7) with rfl | rfl | rfl | rfl
              ·
               refine ⟨_, rfl, .inl ⟨rfl, ?_⟩⟩
               refine sm_lit0 ty70 ty69 rfl ?_
               refine m_all (is := [2, 5, 7]) (by kernel_rfl) rfl (fun _ _ _ => trivial) (fun i hi => ?_)
               rcases (by simpa using hi : i = 2 ∨ i = 5 ∨ i = 7) with rfl | rfl | rfl
               ·
                refine ⟨_, rfl, .inl ⟨rfl, ?_⟩⟩
                refine sm_val (v_loadl ty70 rfl rfl rfl rfl) rfl rfl ?_
                refine m_all (is := [3, 5, 7]) (by kernel_rfl) rfl (fun _ _ _ => trivial) (fun i hi => ?_)
                rcases (by simpa using hi : i = 3 ∨ i = 5 ∨ i = 7) with rfl | rfl | rfl
                ·
                 refine ⟨_, rfl, .inl ⟨rfl, ?_⟩⟩
                 refine sm_any rfl (s_append (l := []) (m := ((f x.peer).waits.map encW)) ty70 ty69 rfl rfl (Own.nil ..) rfl rfl (by refine Even.map _ ?_ _; intro _; rfl) (by intro x hx; obtain ⟨_, _, rfl⟩ := List.mem_map.1 hx; rfl) rfl (by simp; omega) (by simp; omega) ?_)
                 intro av104 G104 h104
                 rw [List.nil_append] at h104
                 refine m_all (is := [5, 7]) (by kernel_rfl) rfl (fun _ _ _ => trivial) (fun i hi => ?_)
                 rcases (by simpa using hi : i = 5 ∨ i = 7) with rfl | rfl
                 ·
                  refine ⟨_, rfl, .inl ⟨rfl, ?_⟩⟩
                  refine sm_val (v_loadl ty3 rfl rfl rfl rfl) rfl rfl ?_
                  refine m_one 7 (by kernel_rfl) rfl rfl ?_
                  refine sm_val (v_loadl ty64 rfl rfl rfl rfl) rfl rfl ?_
                  refine m_take 8 false rfl rfl (by kernel_rfl) (by kernel_rfl) (by kernel_rfl) (fun _ _ _ _ h => h) (v_build (vs := [(0, _), (1, _)]) (zs := [(.int .i64 0), .nil0]) (cells := [_, _]) ty69 pl69 rfl rfl rfl) rfl rfl ?_
                  refine m_one 9 (by kernel_rfl) rfl rfl ?_
                  refine sm_lit ty70 ty69 rfl rfl rfl rfl rfl rfl rfl ?_
                  refine m_one 10 (by kernel_rfl) rfl rfl ?_
                  refine sm_any rfl (s_append (l := ((f x.peer).waits.map encW)) (m := ([(⟨x.now, (f x.peer).last + 1⟩ : BRow)].map encW)) ty70 ty69 rfl rfl h104 rfl rfl (by refine Even.map _ ?_ _; intro _; rfl) (by intro x hx; obtain ⟨_, _, rfl⟩ := List.mem_map.1 hx; rfl) rfl (by simp; omega) (by simp; omega) ?_)
                  intro av111 G111 h111
                  rw [← List.map_append] at h111
                  refine g_freeze 111 rfl h111 ?_
                  refine m_takel 11 rfl rfl (by kernel_rfl) (by kernel_rfl) (by kernel_rfl) (fun _ _ _ _ h => h) (vl_fieldAddr ty72 fo72_2 ty70 rfl) rfl rfl ?_
                  refine m_one 12 (by kernel_rfl) rfl rfl ?_
                  refine sm_any rfl (s_store (new := (encOP ⟨(f x.peer).last + 1, (nextBase (f x.peer) x.now), ((f x.peer).waits ++ [(⟨x.now, (f x.peer).last + 1⟩ : BRow)])⟩)) ty70 rfl rfl rfl rfl rfl rfl rfl ?_)
                  refine m_done (by kernel_rfl) ?_
                  first | refine g_keep [0, 1, 5, 6, 7, 10, 11, 12] [8, 9] [8, 9] (keep_cons rfl (keep_cons rfl (keep_cons rfl (keep_cons rfl (keep_cons rfl (keep_cons rfl (keep_cons rfl (keep_cons rfl keep_nil)))))))) (lkeep_cons rfl (lkeep_cons rfl lkeep_nil)) (keep_cons rfl (keep_cons rfl keep_nil)) rfl ?_ | refine g_keep [0, 1, 5, 6, 7, 10, 11, 12] [8, 9] [8, 9] rfl rfl rfl rfl ?_
                  first | exact g_has ⟨h1, rfl, rfl, rfl, ⟨hO1, hs1, hab1, hs_H1, hhr1, hrm1, hsn⟩⟩
                 ·
                  refine ⟨_, rfl, .inl ⟨rfl, ?_⟩⟩
                  refine sm_val (v_loadl ty64 rfl rfl rfl rfl) rfl rfl ?_
                  refine m_one 5 (by kernel_rfl) rfl rfl ?_
                  refine sm_val (v_loadl ty3 rfl rfl rfl rfl) rfl rfl ?_
                  refine m_take 8 false rfl rfl (by kernel_rfl) (by kernel_rfl) (by kernel_rfl) (fun _ _ _ _ h => h) (v_build (vs := [(0, _), (1, _)]) (zs := [(.int .i64 0), .nil0]) (cells := [_, _]) ty69 pl69 rfl rfl rfl) rfl rfl ?_
                  refine m_one 9 (by kernel_rfl) rfl rfl ?_
                  refine sm_lit ty70 ty69 rfl rfl rfl rfl rfl rfl rfl ?_
                  refine m_one 10 (by kernel_rfl) rfl rfl ?_
                  refine sm_any rfl (s_append (l := ((f x.peer).waits.map encW)) (m := ([(⟨x.now, (f x.peer).last + 1⟩ : BRow)].map encW)) ty70 ty69 rfl rfl h104 rfl rfl (by refine Even.map _ ?_ _; intro _; rfl) (by intro x hx; obtain ⟨_, _, rfl⟩ := List.mem_map.1 hx; rfl) rfl (by simp; omega) (by simp; omega) ?_)
                  intro av111 G111 h111
                  rw [← List.map_append] at h111
                  refine g_freeze 111 rfl h111 ?_
                  refine m_takel 11 rfl rfl (by kernel_rfl) (by kernel_rfl) (by kernel_rfl) (fun _ _ _ _ h => h) (vl_fieldAddr ty72 fo72_2 ty70 rfl) rfl rfl ?_
                  refine m_one 12 (by kernel_rfl) rfl rfl ?_
                  refine sm_any rfl (s_store (new := (encOP ⟨(f x.peer).last + 1, (nextBase (f x.peer) x.now), ((f x.peer).waits ++ [(⟨x.now, (f x.peer).last + 1⟩ : BRow)])⟩)) ty70 rfl rfl rfl rfl rfl rfl rfl ?_)
                  refine m_done (by kernel_rfl) ?_
                  first | refine g_keep [0, 1, 5, 6, 7, 10, 11, 12] [8, 9] [8, 9] (keep_cons rfl (keep_cons rfl (keep_cons rfl (keep_cons rfl (keep_cons rfl (keep_cons rfl (keep_cons rfl (keep_cons rfl keep_nil)))))))) (lkeep_cons rfl (lkeep_cons rfl lkeep_nil)) (keep_cons rfl (keep_cons rfl keep_nil)) rfl ?_ | refine g_keep [0, 1, 5, 6, 7, 10, 11, 12] [8, 9] [8, 9] rfl rfl rfl rfl ?_
                  first | exact g_has ⟨h1, rfl, rfl, rfl, ⟨hO1, hs1, hab1, hs_H1, hhr1, hrm1, hsn⟩⟩
                ·
                 refine ⟨_, rfl, .inl ⟨rfl, ?_⟩⟩
                 refine sm_val (v_loadl ty3 rfl rfl rfl rfl) rfl rfl ?_
                 refine m_all (is := [3, 7]) (by kernel_rfl) rfl (fun _ _ _ => trivial) (fun i hi => ?_)
                 rcases (by simpa using hi : i = 3 ∨ i = 7) with rfl | rfl
                 ·
                  refine ⟨_, rfl, .inl ⟨rfl, ?_⟩⟩
                  refine sm_any rfl (s_append (l := []) (m := ((f x.peer).waits.map encW)) ty70 ty69 rfl rfl (Own.nil ..) rfl rfl (by refine Even.map _ ?_ _; intro _; rfl) (by intro x hx; obtain ⟨_, _, rfl⟩ := List.mem_map.1 hx; rfl) rfl (by simp; omega) (by simp; omega) ?_)
                  intro av104 G104 h104
                  rw [List.nil_append] at h104
                  refine m_one 7 (by kernel_rfl) rfl rfl ?_
                  refine sm_val (v_loadl ty64 rfl rfl rfl rfl) rfl rfl ?_
                  refine m_take 8 false rfl rfl (by kernel_rfl) (by kernel_rfl) (by kernel_rfl) (fun _ _ _ _ h => h) (v_build (vs := [(0, _), (1, _)]) (zs := [(.int .i64 0), .nil0]) (cells := [_, _]) ty69 pl69 rfl rfl rfl) rfl rfl ?_
                  refine m_one 9 (by kernel_rfl) rfl rfl ?_
                  refine sm_lit ty70 ty69 rfl rfl rfl rfl rfl rfl rfl ?_
                  refine m_one 10 (by kernel_rfl) rfl rfl ?_
                  refine sm_any rfl (s_append (l := ((f x.peer).waits.map encW)) (m := ([(⟨x.now, (f x.peer).last + 1⟩ : BRow)].map encW)) ty70 ty69 rfl rfl h104 rfl rfl (by refine Even.map _ ?_ _; intro _; rfl) (by intro x hx; obtain ⟨_, _, rfl⟩ := List.mem_map.1 hx; rfl) rfl (by simp; omega) (by simp; omega) ?_)
                  intro av111 G111 h111
                  rw [← List.map_append] at h111
                  refine g_freeze 111 rfl h111 ?_
                  refine m_takel 11 rfl rfl (by kernel_rfl) (by kernel_rfl) (by kernel_rfl) (fun _ _ _ _ h => h) (vl_fieldAddr ty72 fo72_2 ty70 rfl) rfl rfl ?_
                  refine m_one 12 (by kernel_rfl) rfl rfl ?_
                  refine sm_any rfl (s_store (new := (encOP ⟨(f x.peer).last + 1, (nextBase (f x.peer) x.now), ((f x.peer).waits ++ [(⟨x.now, (f x.peer).last + 1⟩ : BRow)])⟩)) ty70 rfl rfl rfl rfl rfl rfl rfl ?_)
                  refine m_done (by kernel_rfl) ?_
                  first | refine g_keep [0, 1, 5, 6, 7, 10, 11, 12] [8, 9] [8, 9] (keep_cons rfl (keep_cons rfl (keep_cons rfl (keep_cons rfl (keep_cons rfl (keep_cons rfl (keep_cons rfl (keep_cons rfl keep_nil)))))))) (lkeep_cons rfl (lkeep_cons rfl lkeep_nil)) (keep_cons rfl (keep_cons rfl keep_nil)) rfl ?_ | refine g_keep [0, 1, 5, 6, 7, 10, 11, 12] [8, 9] [8, 9] rfl rfl rfl rfl ?_
                  first | exact g_has ⟨h1, rfl, rfl, rfl, ⟨hO1, hs1, hab1, hs_H1, hhr1, hrm1, hsn⟩⟩
                 ·
                  refine ⟨_, rfl, .inl ⟨rfl, ?_⟩⟩
                  refine sm_val (v_loadl ty64 rfl rfl rfl rfl) rfl rfl ?_
                  refine m_take 8 false rfl rfl (by kernel_rfl) (by kernel_rfl) (by kernel_rfl) (fun _ _ _ _ h => h) (v_build (vs := [(0, _), (1, _)]) (zs := [(.int .i64 0), .nil0]) (cells := [_, _]) ty69 pl69 rfl rfl rfl) rfl rfl ?_
                  refine m_all (is := [3, 9]) (by kernel_rfl) rfl (fun _ _ _ => trivial) (fun i hi => ?_)
                  rcases (by simpa using hi : i = 3 ∨ i = 9) with rfl | rfl
                  ·
                   refine ⟨_, rfl, .inl ⟨rfl, ?_⟩⟩
                   refine sm_any rfl (s_append (l := []) (m := ((f x.peer).waits.map encW)) ty70 ty69 rfl rfl (Own.nil ..) rfl rfl (by refine Even.map _ ?_ _; intro _; rfl) (by intro x hx; obtain ⟨_, _, rfl⟩ := List.mem_map.1 hx; rfl) rfl (by simp; omega) (by simp; omega) ?_)
                   intro av104 G104 h104
                   rw [List.nil_append] at h104
                   refine m_one 9 (by kernel_rfl) rfl rfl ?_
                   refine sm_lit ty70 ty69 rfl rfl rfl rfl rfl rfl rfl ?_
                   refine m_one 10 (by kernel_rfl) rfl rfl ?_
                   refine sm_any rfl (s_append (l := ((f x.peer).waits.map encW)) (m := ([(⟨x.now, (f x.peer).last + 1⟩ : BRow)].map encW)) ty70 ty69 rfl rfl h104 rfl rfl (by refine Even.map _ ?_ _; intro _; rfl) (by intro x hx; obtain ⟨_, _, rfl⟩ := List.mem_map.1 hx; rfl) rfl (by simp; omega) (by simp; omega) ?_)
                   intro av111 G111 h111
                   rw [← List.map_append] at h111
                   refine g_freeze 111 rfl h111 ?_
                   refine m_takel 11 rfl rfl (by kernel_rfl) (by kernel_rfl) (by kernel_rfl) (fun _ _ _ _ h => h) (vl_fieldAddr ty72 fo72_2 ty70 rfl) rfl rfl ?_
                   refine m_one 12 (by kernel_rfl) rfl rfl ?_
                   refine sm_any rfl (s_store (new := (encOP ⟨(f x.peer).last + 1, (nextBase (f x.peer) x.now), ((f x.peer).waits ++ [(⟨x.now, (f x.peer).last + 1⟩ : BRow)])⟩)) ty70 rfl rfl rfl rfl rfl rfl rfl ?_)
                   refine m_done (by kernel_rfl) ?_
                   first | refine g_keep [0, 1, 5, 6, 7, 10, 11, 12] [8, 9] [8, 9] (keep_cons rfl (keep_cons rfl (keep_cons rfl (keep_cons rfl (keep_cons rfl (keep_cons rfl (keep_cons rfl (keep_cons rfl keep_nil)))))))) (lkeep_cons rfl (lkeep_cons rfl lkeep_nil)) (keep_cons rfl (keep_cons rfl keep_nil)) rfl ?_ | refine g_keep [0, 1, 5, 6, 7, 10, 11, 12] [8, 9] [8, 9] rfl rfl rfl rfl ?_
                   first | exact g_has ⟨h1, rfl, rfl, rfl, ⟨hO1, hs1, hab1, hs_H1, hhr1, hrm1, hsn⟩⟩
                  ·
                   refine ⟨_, rfl, .inl ⟨rfl, ?_⟩⟩
                   refine sm_lit ty70 ty69 rfl rfl rfl rfl rfl rfl rfl ?_
                   refine m_one 3 (by kernel_rfl) rfl rfl ?_
                   refine sm_any rfl (s_append (l := []) (m := ((f x.peer).waits.map encW)) ty70 ty69 rfl rfl (Own.nil ..) rfl rfl (by refine Even.map _ ?_ _; intro _; rfl) (by intro x hx; obtain ⟨_, _, rfl⟩ := List.mem_map.1 hx; rfl) rfl (by simp; omega) (by simp; omega) ?_)
                   intro av104 G104 h104
                   rw [List.nil_append] at h104
                   refine m_one 10 (by kernel_rfl) rfl rfl ?_
                   refine sm_any rfl (s_append (l := ((f x.peer).waits.map encW)) (m := ([(⟨x.now, (f x.peer).last + 1⟩ : BRow)].map encW)) ty70 ty69 rfl rfl h104 rfl rfl (by refine Even.map _ ?_ _; intro _; rfl) (by intro x hx; obtain ⟨_, _, rfl⟩ := List.mem_map.1 hx; rfl) rfl (by simp; omega) (by simp; omega) ?_)
                   intro av111 G111 h111
                   rw [← List.map_append] at h111
                   refine g_freeze 111 rfl h111 ?_
                   refine m_takel 11 rfl rfl (by kernel_rfl) (by kernel_rfl) (by kernel_rfl) (fun _ _ _ _ h => h) (vl_fieldAddr ty72 fo72_2 ty70 rfl) rfl rfl ?_
                   refine m_one 12 (by kernel_rfl) rfl rfl ?_
                   refine sm_any rfl (s_store (new := (encOP ⟨(f x.peer).last + 1, (nextBase (f x.peer) x.now), ((f x.peer).waits ++ [(⟨x.now, (f x.peer).last + 1⟩ : BRow)])⟩)) ty70 rfl rfl rfl rfl rfl rfl rfl ?_)
                   refine m_done (by kernel_rfl) ?_
                   first | refine g_keep [0, 1, 5, 6, 7, 10, 11, 12] [8, 9] [8, 9] (keep_cons rfl (keep_cons rfl (keep_cons rfl (keep_cons rfl (keep_cons rfl (keep_cons rfl (keep_cons rfl (keep_cons rfl keep_nil)))))))) (lkeep_cons rfl (lkeep_cons rfl lkeep_nil)) (keep_cons rfl (keep_cons rfl keep_nil)) rfl ?_ | refine g_keep [0, 1, 5, 6, 7, 10, 11, 12] [8, 9] [8, 9] rfl rfl rfl rfl ?_
                   first | exact g_has ⟨h1, rfl, rfl, rfl, ⟨hO1, hs1, hab1, hs_H1, hhr1, hrm1, hsn⟩⟩
                ·
                 refine ⟨_, rfl, .inl ⟨rfl, ?_⟩⟩
                 refine sm_val (v_loadl ty64 rfl rfl rfl rfl) rfl rfl ?_
                 refine m_all (is := [3, 5]) (by kernel_rfl) rfl (fun _ _ _ => trivial) (fun i hi => ?_)
                 rcases (by simpa using hi : i = 3 ∨ i = 5) with rfl | rfl
                 ·
                  refine ⟨_, rfl, .inl ⟨rfl, ?_⟩⟩
                  refine sm_any rfl (s_append (l := []) (m := ((f x.peer).waits.map encW)) ty70 ty69 rfl rfl (Own.nil ..) rfl rfl (by refine Even.map _ ?_ _; intro _; rfl) (by intro x hx; obtain ⟨_, _, rfl⟩ := List.mem_map.1 hx; rfl) rfl (by simp; omega) (by simp; omega) ?_)
                  intro av104 G104 h104
                  rw [List.nil_append] at h104
                  refine m_one 5 (by kernel_rfl) rfl rfl ?_
                  refine sm_val (v_loadl ty3 rfl rfl rfl rfl) rfl rfl ?_
                  refine m_take 8 false rfl rfl (by kernel_rfl) (by kernel_rfl) (by kernel_rfl) (fun _ _ _ _ h => h) (v_build (vs := [(0, _), (1, _)]) (zs := [(.int .i64 0), .nil0]) (cells := [_, _]) ty69 pl69 rfl rfl rfl) rfl rfl ?_
                  refine m_one 9 (by kernel_rfl) rfl rfl ?_
                  refine sm_lit ty70 ty69 rfl rfl rfl rfl rfl rfl rfl ?_
                  refine m_one 10 (by kernel_rfl) rfl rfl ?_
                  refine sm_any rfl (s_append (l := ((f x.peer).waits.map encW)) (m := ([(⟨x.now, (f x.peer).last + 1⟩ : BRow)].map encW)) ty70 ty69 rfl rfl h104 rfl rfl (by refine Even.map _ ?_ _; intro _; rfl) (by intro x hx; obtain ⟨_, _, rfl⟩ := List.mem_map.1 hx; rfl) rfl (by simp; omega) (by simp; omega) ?_)
                  intro av111 G111 h111
                  rw [← List.map_append] at h111
                  refine g_freeze 111 rfl h111 ?_
                  refine m_takel 11 rfl rfl (by kernel_rfl) (by kernel_rfl) (by kernel_rfl) (fun _ _ _ _ h => h) (vl_fieldAddr ty72 fo72_2 ty70 rfl) rfl rfl ?_
                  refine m_one 12 (by kernel_rfl) rfl rfl ?_
                  refine sm_any rfl (s_store (new := (encOP ⟨(f x.peer).last + 1, (nextBase (f x.peer) x.now), ((f x.peer).waits ++ [(⟨x.now, (f x.peer).last + 1⟩ : BRow)])⟩)) ty70 rfl rfl rfl rfl rfl rfl rfl ?_)
                  refine m_done (by kernel_rfl) ?_
                  first | refine g_keep [0, 1, 5, 6, 7, 10, 11, 12] [8, 9] [8, 9] (keep_cons rfl (keep_cons rfl (keep_cons rfl (keep_cons rfl (keep_cons rfl (keep_cons rfl (keep_cons rfl (keep_cons rfl keep_nil)))))))) (lkeep_cons rfl (lkeep_cons rfl lkeep_nil)) (keep_cons rfl (keep_cons rfl keep_nil)) rfl ?_ | refine g_keep [0, 1, 5, 6, 7, 10, 11, 12] [8, 9] [8, 9] rfl rfl rfl rfl ?_
                  first | exact g_has ⟨h1, rfl, rfl, rfl, ⟨hO1, hs1, hab1, hs_H1, hhr1, hrm1, hsn⟩⟩
                 ·
                  refine ⟨_, rfl, .inl ⟨rfl, ?_⟩⟩
                  refine sm_val (v_loadl ty3 rfl rfl rfl rfl) rfl rfl ?_
                  refine m_take 8 false rfl rfl (by kernel_rfl) (by kernel_rfl) (by kernel_rfl) (fun _ _ _ _ h => h) (v_build (vs := [(0, _), (1, _)]) (zs := [(.int .i64 0), .nil0]) (cells := [_, _]) ty69 pl69 rfl rfl rfl) rfl rfl ?_
                  refine m_all (is := [3, 9]) (by kernel_rfl) rfl (fun _ _ _ => trivial) (fun i hi => ?_)
                  rcases (by simpa using hi : i = 3 ∨ i = 9) with rfl | rfl
                  ·
                   refine ⟨_, rfl, .inl ⟨rfl, ?_⟩⟩
                   refine sm_any rfl (s_append (l := []) (m := ((f x.peer).waits.map encW)) ty70 ty69 rfl rfl (Own.nil ..) rfl rfl (by refine Even.map _ ?_ _; intro _; rfl) (by intro x hx; obtain ⟨_, _, rfl⟩ := List.mem_map.1 hx; rfl) rfl (by simp; omega) (by simp; omega) ?_)
                   intro av104 G104 h104
                   rw [List.nil_append] at h104
                   refine m_one 9 (by kernel_rfl) rfl rfl ?_
                   refine sm_lit ty70 ty69 rfl rfl rfl rfl rfl rfl rfl ?_
                   refine m_one 10 (by kernel_rfl) rfl rfl ?_
                   refine sm_any rfl (s_append (l := ((f x.peer).waits.map encW)) (m := ([(⟨x.now, (f x.peer).last + 1⟩ : BRow)].map encW)) ty70 ty69 rfl rfl h104 rfl rfl (by refine Even.map _ ?_ _; intro _; rfl) (by intro x hx; obtain ⟨_, _, rfl⟩ := List.mem_map.1 hx; rfl) rfl (by simp; omega) (by simp; omega) ?_)
                   intro av111 G111 h111
                   rw [← List.map_append] at h111
                   refine g_freeze 111 rfl h111 ?_
                   refine m_takel 11 rfl rfl (by kernel_rfl) (by kernel_rfl) (by kernel_rfl) (fun _ _ _ _ h => h) (vl_fieldAddr ty72 fo72_2 ty70 rfl) rfl rfl ?_
                   refine m_one 12 (by kernel_rfl) rfl rfl ?_
                   refine sm_any rfl (s_store (new := (encOP ⟨(f x.peer).last + 1, (nextBase (f x.peer) x.now), ((f x.peer).waits ++ [(⟨x.now, (f x.peer).last + 1⟩ : BRow)])⟩)) ty70 rfl rfl rfl rfl rfl rfl rfl ?_)
                   refine m_done (by kernel_rfl) ?_
                   first | refine g_keep [0, 1, 5, 6, 7, 10, 11, 12] [8, 9] [8, 9] (keep_cons rfl (keep_cons rfl (keep_cons rfl (keep_cons rfl (keep_cons rfl (keep_cons rfl (keep_cons rfl (keep_cons rfl keep_nil)))))))) (lkeep_cons rfl (lkeep_cons rfl lkeep_nil)) (keep_cons rfl (keep_cons rfl keep_nil)) rfl ?_ | refine g_keep [0, 1, 5, 6, 7, 10, 11, 12] [8, 9] [8, 9] rfl rfl rfl rfl ?_
                   first | exact g_has ⟨h1, rfl, rfl, rfl, ⟨hO1, hs1, hab1, hs_H1, hhr1, hrm1, hsn⟩⟩
                  ·
                   refine ⟨_, rfl, .inl ⟨rfl, ?_⟩⟩
                   refine sm_lit ty70 ty69 rfl rfl rfl rfl rfl rfl rfl ?_
                   refine m_one 3 (by kernel_rfl) rfl rfl ?_
                   refine sm_any rfl (s_append (l := []) (m := ((f x.peer).waits.map encW)) ty70 ty69 rfl rfl (Own.nil ..) rfl rfl (by refine Even.map _ ?_ _; intro _; rfl) (by intro x hx; obtain ⟨_, _, rfl⟩ := List.mem_map.1 hx; rfl) rfl (by simp; omega) (by simp; omega) ?_)
                   intro av104 G104 h104
                   rw [List.nil_append] at h104
                   refine m_one 10 (by kernel_rfl) rfl rfl ?_
                   refine sm_any rfl (s_append (l := ((f x.peer).waits.map encW)) (m := ([(⟨x.now, (f x.peer).last + 1⟩ : BRow)].map encW)) ty70 ty69 rfl rfl h104 rfl rfl (by refine Even.map _ ?_ _; intro _; rfl) (by intro x hx; obtain ⟨_, _, rfl⟩ := List.mem_map.1 hx; rfl) rfl (by simp; omega) (by simp; omega) ?_)
                   intro av111 G111 h111
                   rw [← List.map_append] at h111
                   refine g_freeze 111 rfl h111 ?_
                   refine m_takel 11 rfl rfl (by kernel_rfl) (by kernel_rfl) (by kernel_rfl) (fun _ _ _ _ h => h) (vl_fieldAddr ty72 fo72_2 ty70 rfl) rfl rfl ?_
                   refine m_one 12 (by kernel_rfl) rfl rfl ?_
                   refine sm_any rfl (s_store (new := (encOP ⟨(f x.peer).last + 1, (nextBase (f x.peer) x.now), ((f x.peer).waits ++ [(⟨x.now, (f x.peer).last + 1⟩ : BRow)])⟩)) ty70 rfl rfl rfl rfl rfl rfl rfl ?_)
                   refine m_done (by kernel_rfl) ?_
                   first | refine g_keep [0, 1, 5, 6, 7, 10, 11, 12] [8, 9] [8, 9] (keep_cons rfl (keep_cons rfl (keep_cons rfl (keep_cons rfl (keep_cons rfl (keep_cons rfl (keep_cons rfl (keep_cons rfl keep_nil)))))))) (lkeep_cons rfl (lkeep_cons rfl lkeep_nil)) (keep_cons rfl (keep_cons rfl keep_nil)) rfl ?_ | refine g_keep [0, 1, 5, 6, 7, 10, 11, 12] [8, 9] [8, 9] rfl rfl rfl rfl ?_
                   first | exact g_has ⟨h1, rfl, rfl, rfl, ⟨hO1, hs1, hab1, hs_H1, hhr1, hrm1, hsn⟩⟩
               ·
                refine ⟨_, rfl, .inl ⟨rfl, ?_⟩⟩
                refine sm_val (v_loadl ty3 rfl rfl rfl rfl) rfl rfl ?_
                refine m_all (is := [2, 7]) (by kernel_rfl) rfl (fun _ _ _ => trivial) (fun i hi => ?_)
                rcases (by simpa using hi : i = 2 ∨ i = 7) with rfl | rfl
                ·
                 refine ⟨_, rfl, .inl ⟨rfl, ?_⟩⟩
                 refine sm_val (v_loadl ty70 rfl rfl rfl rfl) rfl rfl ?_
                 refine m_all (is := [3, 7]) (by kernel_rfl) rfl (fun _ _ _ => trivial) (fun i hi => ?_)
                 rcases (by simpa using hi : i = 3 ∨ i = 7) with rfl | rfl
                 ·
                  refine ⟨_, rfl, .inl ⟨rfl, ?_⟩⟩
                  refine sm_any rfl (s_append (l := []) (m := ((f x.peer).waits.map encW)) ty70 ty69 rfl rfl (Own.nil ..) rfl rfl (by refine Even.map _ ?_ _; intro _; rfl) (by intro x hx; obtain ⟨_, _, rfl⟩ := List.mem_map.1 hx; rfl) rfl (by simp; omega) (by simp; omega) ?_)
                  intro av104 G104 h104
                  rw [List.nil_append] at h104
                  refine m_one 7 (by kernel_rfl) rfl rfl ?_
                  refine sm_val (v_loadl ty64 rfl rfl rfl rfl) rfl rfl ?_
                  refine m_take 8 false rfl rfl (by kernel_rfl) (by kernel_rfl) (by kernel_rfl) (fun _ _ _ _ h => h) (v_build (vs := [(0, _), (1, _)]) (zs := [(.int .i64 0), .nil0]) (cells := [_, _]) ty69 pl69 rfl rfl rfl) rfl rfl ?_
                  refine m_one 9 (by kernel_rfl) rfl rfl ?_
                  refine sm_lit ty70 ty69 rfl rfl rfl rfl rfl rfl rfl ?_
                  refine m_one 10 (by kernel_rfl) rfl rfl ?_
                  refine sm_any rfl (s_append (l := ((f x.peer).waits.map encW)) (m := ([(⟨x.now, (f x.peer).last + 1⟩ : BRow)].map encW)) ty70 ty69 rfl rfl h104 rfl rfl (by refine Even.map _ ?_ _; intro _; rfl) (by intro x hx; obtain ⟨_, _, rfl⟩ := List.mem_map.1 hx; rfl) rfl (by simp; omega) (by simp; omega) ?_)
                  intro av111 G111 h111
                  rw [← List.map_append] at h111
                  refine g_freeze 111 rfl h111 ?_
                  refine m_takel 11 rfl rfl (by kernel_rfl) (by kernel_rfl) (by kernel_rfl) (fun _ _ _ _ h => h) (vl_fieldAddr ty72 fo72_2 ty70 rfl) rfl rfl ?_
                  refine m_one 12 (by kernel_rfl) rfl rfl ?_
                  refine sm_any rfl (s_store (new := (encOP ⟨(f x.peer).last + 1, (nextBase (f x.peer) x.now), ((f x.peer).waits ++ [(⟨x.now, (f x.peer).last + 1⟩ : BRow)])⟩)) ty70 rfl rfl rfl rfl rfl rfl rfl ?_)
                  refine m_done (by kernel_rfl) ?_
                  first | refine g_keep [0, 1, 5, 6, 7, 10, 11, 12] [8, 9] [8, 9] (keep_cons rfl (keep_cons rfl (keep_cons rfl (keep_cons rfl (keep_cons rfl (keep_cons rfl (keep_cons rfl (keep_cons rfl keep_nil)))))))) (lkeep_cons rfl (lkeep_cons rfl lkeep_nil)) (keep_cons rfl (keep_cons rfl keep_nil)) rfl ?_ | refine g_keep [0, 1, 5, 6, 7, 10, 11, 12] [8, 9] [8, 9] rfl rfl rfl rfl ?_
                  first | exact g_has ⟨h1, rfl, rfl, rfl, ⟨hO1, hs1, hab1, hs_H1, hhr1, hrm1, hsn⟩⟩
                 ·
                  refine ⟨_, rfl, .inl ⟨rfl, ?_⟩⟩
                  refine sm_val (v_loadl ty64 rfl rfl rfl rfl) rfl rfl ?_
                  refine m_take 8 false rfl rfl (by kernel_rfl) (by kernel_rfl) (by kernel_rfl) (fun _ _ _ _ h => h) (v_build (vs := [(0, _), (1, _)]) (zs := [(.int .i64 0), .nil0]) (cells := [_, _]) ty69 pl69 rfl rfl rfl) rfl rfl ?_
                  refine m_all (is := [3, 9]) (by kernel_rfl) rfl (fun _ _ _ => trivial) (fun i hi => ?_)
                  rcases (by simpa using hi : i = 3 ∨ i = 9) with rfl | rfl
                  ·
                   refine ⟨_, rfl, .inl ⟨rfl, ?_⟩⟩
                   refine sm_any rfl (s_append (l := []) (m := ((f x.peer).waits.map encW)) ty70 ty69 rfl rfl (Own.nil ..) rfl rfl (by refine Even.map _ ?_ _; intro _; rfl) (by intro x hx; obtain ⟨_, _, rfl⟩ := List.mem_map.1 hx; rfl) rfl (by simp; omega) (by simp; omega) ?_)
                   intro av104 G104 h104
                   rw [List.nil_append] at h104
                   refine m_one 9 (by kernel_rfl) rfl rfl ?_
                   refine sm_lit ty70 ty69 rfl rfl rfl rfl rfl rfl rfl ?_
                   refine m_one 10 (by kernel_rfl) rfl rfl ?_
                   refine sm_any rfl (s_append (l := ((f x.peer).waits.map encW)) (m := ([(⟨x.now, (f x.peer).last + 1⟩ : BRow)].map encW)) ty70 ty69 rfl rfl h104 rfl rfl (by refine Even.map _ ?_ _; intro _; rfl) (by intro x hx; obtain ⟨_, _, rfl⟩ := List.mem_map.1 hx; rfl) rfl (by simp; omega) (by simp; omega) ?_)
                   intro av111 G111 h111
                   rw [← List.map_append] at h111
                   refine g_freeze 111 rfl h111 ?_
                   refine m_takel 11 rfl rfl (by kernel_rfl) (by kernel_rfl) (by kernel_rfl) (fun _ _ _ _ h => h) (vl_fieldAddr ty72 fo72_2 ty70 rfl) rfl rfl ?_
                   refine m_one 12 (by kernel_rfl) rfl rfl ?_
                   refine sm_any rfl (s_store (new := (encOP ⟨(f x.peer).last + 1, (nextBase (f x.peer) x.now), ((f x.peer).waits ++ [(⟨x.now, (f x.peer).last + 1⟩ : BRow)])⟩)) ty70 rfl rfl rfl rfl rfl rfl rfl ?_)
                   refine m_done (by kernel_rfl) ?_
                   first | refine g_keep [0, 1, 5, 6, 7, 10, 11, 12] [8, 9] [8, 9] (keep_cons rfl (keep_cons rfl (keep_cons rfl (keep_cons rfl (keep_cons rfl (keep_cons rfl (keep_cons rfl (keep_cons rfl keep_nil)))))))) (lkeep_cons rfl (lkeep_cons rfl lkeep_nil)) (keep_cons rfl (keep_cons rfl keep_nil)) rfl ?_ | refine g_keep [0, 1, 5, 6, 7, 10, 11, 12] [8, 9] [8, 9] rfl rfl rfl rfl ?_
                   first | exact g_has ⟨h1, rfl, rfl, rfl, ⟨hO1, hs1, hab1, hs_H1, hhr1, hrm1, hsn⟩⟩
                  ·
                   refine ⟨_, rfl, .inl ⟨rfl, ?_⟩⟩
                   refine sm_lit ty70 ty69 rfl rfl rfl rfl rfl rfl rfl ?_
                   refine m_one 3 (by kernel_rfl) rfl rfl ?_
                   refine sm_any rfl (s_append (l := []) (m := ((f x.peer).waits.map encW)) ty70 ty69 rfl rfl (Own.nil ..) rfl rfl (by refine Even.map _ ?_ _; intro _; rfl) (by intro x hx; obtain ⟨_, _, rfl⟩ := List.mem_map.1 hx; rfl) rfl (by simp; omega) (by simp; omega) ?_)
                   intro av104 G104 h104
                   rw [List.nil_append] at h104
                   refine m_one 10 (by kernel_rfl) rfl rfl ?_
                   refine sm_any rfl (s_append (l := ((f x.peer).waits.map encW)) (m := ([(⟨x.now, (f x.peer).last + 1⟩ : BRow)].map encW)) ty70 ty69 rfl rfl h104 rfl rfl (by refine Even.map _ ?_ _; intro _; rfl) (by intro x hx; obtain ⟨_, _, rfl⟩ := List.mem_map.1 hx; rfl) rfl (by simp; omega) (by simp; omega) ?_)
                   intro av111 G111 h111
                   rw [← List.map_append] at h111
                   refine g_freeze 111 rfl h111 ?_
                   refine m_takel 11 rfl rfl (by kernel_rfl) (by kernel_rfl) (by kernel_rfl) (fun _ _ _ _ h => h) (vl_fieldAddr ty72 fo72_2 ty70 rfl) rfl rfl ?_
                   refine m_one 12 (by kernel_rfl) rfl rfl ?_
                   refine sm_any rfl (s_store (new := (encOP ⟨(f x.peer).last + 1, (nextBase (f x.peer) x.now), ((f x.peer).waits ++ [(⟨x.now, (f x.peer).last + 1⟩ : BRow)])⟩)) ty70 rfl rfl rfl rfl rfl rfl rfl ?_)
                   refine m_done (by kernel_rfl) ?_
                   first | refine g_keep [0, 1, 5, 6, 7, 10, 11, 12] [8, 9] [8, 9] (keep_cons rfl (keep_cons rfl (keep_cons rfl (keep_cons rfl (keep_cons rfl (keep_cons rfl (keep_cons rfl (keep_cons rfl keep_nil)))))))) (lkeep_cons rfl (lkeep_cons rfl lkeep_nil)) (keep_cons rfl (keep_cons rfl keep_nil)) rfl ?_ | refine g_keep [0, 1, 5, 6, 7, 10, 11, 12] [8, 9] [8, 9] rfl rfl rfl rfl ?_
                   first | exact g_has ⟨h1, rfl, rfl, rfl, ⟨hO1, hs1, hab1, hs_H1, hhr1, hrm1, hsn⟩⟩
                ·
                 refine ⟨_, rfl, .inl ⟨rfl, ?_⟩⟩
                 refine sm_val (v_loadl ty64 rfl rfl rfl rfl) rfl rfl ?_
                 refine m_take 8 false rfl rfl (by kernel_rfl) (by kernel_rfl) (by kernel_rfl) (fun _ _ _ _ h => h) (v_build (vs := [(0, _), (1, _)]) (zs := [(.int .i64 0), .nil0]) (cells := [_, _]) ty69 pl69 rfl rfl rfl) rfl rfl ?_
                 refine m_all (is := [2, 9]) (by kernel_rfl) rfl (fun _ _ _ => trivial) (fun i hi => ?_)
                 rcases (by simpa using hi : i = 2 ∨ i = 9) with rfl | rfl
                 ·
                  refine ⟨_, rfl, .inl ⟨rfl, ?_⟩⟩
                  refine sm_val (v_loadl ty70 rfl rfl rfl rfl) rfl rfl ?_
                  refine m_all (is := [3, 9]) (by kernel_rfl) rfl (fun _ _ _ => trivial) (fun i hi => ?_)
                  rcases (by simpa using hi : i = 3 ∨ i = 9) with rfl | rfl
                  ·
                   refine ⟨_, rfl, .inl ⟨rfl, ?_⟩⟩
                   refine sm_any rfl (s_append (l := []) (m := ((f x.peer).waits.map encW)) ty70 ty69 rfl rfl (Own.nil ..) rfl rfl (by refine Even.map _ ?_ _; intro _; rfl) (by intro x hx; obtain ⟨_, _, rfl⟩ := List.mem_map.1 hx; rfl) rfl (by simp; omega) (by simp; omega) ?_)
                   intro av104 G104 h104
                   rw [List.nil_append] at h104
                   refine m_one 9 (by kernel_rfl) rfl rfl ?_
                   refine sm_lit ty70 ty69 rfl rfl rfl rfl rfl rfl rfl ?_
                   refine m_one 10 (by kernel_rfl) rfl rfl ?_
                   refine sm_any rfl (s_append (l := ((f x.peer).waits.map encW)) (m := ([(⟨x.now, (f x.peer).last + 1⟩ : BRow)].map encW)) ty70 ty69 rfl rfl h104 rfl rfl (by refine Even.map _ ?_ _; intro _; rfl) (by intro x hx; obtain ⟨_, _, rfl⟩ := List.mem_map.1 hx; rfl) rfl (by simp; omega) (by simp; omega) ?_)
                   intro av111 G111 h111
                   rw [← List.map_append] at h111
                   refine g_freeze 111 rfl h111 ?_
                   refine m_takel 11 rfl rfl (by kernel_rfl) (by kernel_rfl) (by kernel_rfl) (fun _ _ _ _ h => h) (vl_fieldAddr ty72 fo72_2 ty70 rfl) rfl rfl ?_
                   refine m_one 12 (by kernel_rfl) rfl rfl ?_
                   refine sm_any rfl (s_store (new := (encOP ⟨(f x.peer).last + 1, (nextBase (f x.peer) x.now), ((f x.peer).waits ++ [(⟨x.now, (f x.peer).last + 1⟩ : BRow)])⟩)) ty70 rfl rfl rfl rfl rfl rfl rfl ?_)
                   refine m_done (by kernel_rfl) ?_
                   first | refine g_keep [0, 1, 5, 6, 7, 10, 11, 12] [8, 9] [8, 9] (keep_cons rfl (keep_cons rfl (keep_cons rfl (keep_cons rfl (keep_cons rfl (keep_cons rfl (keep_cons rfl (keep_cons rfl keep_nil)))))))) (lkeep_cons rfl (lkeep_cons rfl lkeep_nil)) (keep_cons rfl (keep_cons rfl keep_nil)) rfl ?_ | refine g_keep [0, 1, 5, 6, 7, 10, 11, 12] [8, 9] [8, 9] rfl rfl rfl rfl ?_
                   first | exact g_has ⟨h1, rfl, rfl, rfl, ⟨hO1, hs1, hab1, hs_H1, hhr1, hrm1, hsn⟩⟩
                  ·
                   refine ⟨_, rfl, .inl ⟨rfl, ?_⟩⟩
                   refine sm_lit ty70 ty69 rfl rfl rfl rfl rfl rfl rfl ?_
                   refine m_one 3 (by kernel_rfl) rfl rfl ?_
                   refine sm_any rfl (s_append (l := []) (m := ((f x.peer).waits.map encW)) ty70 ty69 rfl rfl (Own.nil ..) rfl rfl (by refine Even.map _ ?_ _; intro _; rfl) (by intro x hx; obtain ⟨_, _, rfl⟩ := List.mem_map.1 hx; rfl) rfl (by simp; omega) (by simp; omega) ?_)
                   intro av104 G104 h104
                   rw [List.nil_append] at h104
                   refine m_one 10 (by kernel_rfl) rfl rfl ?_
                   refine sm_any rfl (s_append (l := ((f x.peer).waits.map encW)) (m := ([(⟨x.now, (f x.peer).last + 1⟩ : BRow)].map encW)) ty70 ty69 rfl rfl h104 rfl rfl (by refine Even.map _ ?_ _; intro _; rfl) (by intro x hx; obtain ⟨_, _, rfl⟩ := List.mem_map.1 hx; rfl) rfl (by simp; omega) (by simp; omega) ?_)
                   intro av111 G111 h111
                   rw [← List.map_append] at h111
                   refine g_freeze 111 rfl h111 ?_
                   refine m_takel 11 rfl rfl (by kernel_rfl) (by kernel_rfl) (by kernel_rfl) (fun _ _ _ _ h => h) (vl_fieldAddr ty72 fo72_2 ty70 rfl) rfl rfl ?_
                   refine m_one 12 (by kernel_rfl) rfl rfl ?_
                   refine sm_any rfl (s_store (new := (encOP ⟨(f x.peer).last + 1, (nextBase (f x.peer) x.now), ((f x.peer).waits ++ [(⟨x.now, (f x.peer).last + 1⟩ : BRow)])⟩)) ty70 rfl rfl rfl rfl rfl rfl rfl ?_)
                   refine m_done (by kernel_rfl) ?_
                   first | refine g_keep [0, 1, 5, 6, 7, 10, 11, 12] [8, 9] [8, 9] (keep_cons rfl (keep_cons rfl (keep_cons rfl (keep_cons rfl (keep_cons rfl (keep_cons rfl (keep_cons rfl (keep_cons rfl keep_nil)))))))) (lkeep_cons rfl (lkeep_cons rfl lkeep_nil)) (keep_cons rfl (keep_cons rfl keep_nil)) rfl ?_ | refine g_keep [0, 1, 5, 6, 7, 10, 11, 12] [8, 9] [8, 9] rfl rfl rfl rfl ?_
                   first | exact g_has ⟨h1, rfl, rfl, rfl, ⟨hO1, hs1, hab1, hs_H1, hhr1, hrm1, hsn⟩⟩
                 ·
                  refine ⟨_, rfl, .inl ⟨rfl, ?_⟩⟩
                  refine sm_lit ty70 ty69 rfl rfl rfl rfl rfl rfl rfl ?_
                  refine m_one 2 (by kernel_rfl) rfl rfl ?_
                  refine sm_val (v_loadl ty70 rfl rfl rfl rfl) rfl rfl ?_
                  refine m_one 3 (by kernel_rfl) rfl rfl ?_
                  refine sm_any rfl (s_append (l := []) (m := ((f x.peer).waits.map encW)) ty70 ty69 rfl rfl (Own.nil ..) rfl rfl (by refine Even.map _ ?_ _; intro _; rfl) (by intro x hx; obtain ⟨_, _, rfl⟩ := List.mem_map.1 hx; rfl) rfl (by simp; omega) (by simp; omega) ?_)
                  intro av104 G104 h104
                  rw [List.nil_append] at h104
                  refine m_one 10 (by kernel_rfl) rfl rfl ?_
                  refine sm_any rfl (s_append (l := ((f x.peer).waits.map encW)) (m := ([(⟨x.now, (f x.peer).last + 1⟩ : BRow)].map encW)) ty70 ty69 rfl rfl h104 rfl rfl (by refine Even.map _ ?_ _; intro _; rfl) (by intro x hx; obtain ⟨_, _, rfl⟩ := List.mem_map.1 hx; rfl) rfl (by simp; omega) (by simp; omega) ?_)
                  intro av111 G111 h111
                  rw [← List.map_append] at h111
                  refine g_freeze 111 rfl h111 ?_
                  refine m_takel 11 rfl rfl (by kernel_rfl) (by kernel_rfl) (by kernel_rfl) (fun _ _ _ _ h => h) (vl_fieldAddr ty72 fo72_2 ty70 rfl) rfl rfl ?_
                  refine m_one 12 (by kernel_rfl) rfl rfl ?_
                  refine sm_any rfl (s_store (new := (encOP ⟨(f x.peer).last + 1, (nextBase (f x.peer) x.now), ((f x.peer).waits ++ [(⟨x.now, (f x.peer).last + 1⟩ : BRow)])⟩)) ty70 rfl rfl rfl rfl rfl rfl rfl ?_)
                  refine m_done (by kernel_rfl) ?_
                  first | refine g_keep [0, 1, 5, 6, 7, 10, 11, 12] [8, 9] [8, 9] (keep_cons rfl (keep_cons rfl (keep_cons rfl (keep_cons rfl (keep_cons rfl (keep_cons rfl (keep_cons rfl (keep_cons rfl keep_nil)))))))) (lkeep_cons rfl (lkeep_cons rfl lkeep_nil)) (keep_cons rfl (keep_cons rfl keep_nil)) rfl ?_ | refine g_keep [0, 1, 5, 6, 7, 10, 11, 12] [8, 9] [8, 9] rfl rfl rfl rfl ?_
                  first | exact g_has ⟨h1, rfl, rfl, rfl, ⟨hO1, hs1, hab1, hs_H1, hhr1, hrm1, hsn⟩⟩
               ·
                refine ⟨_, rfl, .inl ⟨rfl, ?_⟩⟩
                refine sm_val (v_loadl ty64 rfl rfl rfl rfl) rfl rfl ?_
                refine m_all (is := [2, 5]) (by kernel_rfl) rfl (fun _ _ _ => trivial) (fun i hi => ?_)
                rcases (by simpa using hi : i = 2 ∨ i = 5) with rfl | rfl
                ·
                 refine ⟨_, rfl, .inl ⟨rfl, ?_⟩⟩
                 refine sm_val (v_loadl ty70 rfl rfl rfl rfl) rfl rfl ?_
                 refine m_all (is := [3, 5]) (by kernel_rfl) rfl (fun _ _ _ => trivial) (fun i hi => ?_)
                 rcases (by simpa using hi : i = 3 ∨ i = 5) with rfl | rfl
                 ·
                  refine ⟨_, rfl, .inl ⟨rfl, ?_⟩⟩
                  refine sm_any rfl (s_append (l := []) (m := ((f x.peer).waits.map encW)) ty70 ty69 rfl rfl (Own.nil ..) rfl rfl (by refine Even.map _ ?_ _; intro _; rfl) (by intro x hx; obtain ⟨_, _, rfl⟩ := List.mem_map.1 hx; rfl) rfl (by simp; omega) (by simp; omega) ?_)
                  intro av104 G104 h104
                  rw [List.nil_append] at h104
                  refine m_one 5 (by kernel_rfl) rfl rfl ?_
                  refine sm_val (v_loadl ty3 rfl rfl rfl rfl) rfl rfl ?_
                  refine m_take 8 false rfl rfl (by kernel_rfl) (by kernel_rfl) (by kernel_rfl) (fun _ _ _ _ h => h) (v_build (vs := [(0, _), (1, _)]) (zs := [(.int .i64 0), .nil0]) (cells := [_, _]) ty69 pl69 rfl rfl rfl) rfl rfl ?_
                  refine m_one 9 (by kernel_rfl) rfl rfl ?_
                  refine sm_lit ty70 ty69 rfl rfl rfl rfl rfl rfl rfl ?_
                  refine m_one 10 (by kernel_rfl) rfl rfl ?_
                  refine sm_any rfl (s_append (l := ((f x.peer).waits.map encW)) (m := ([(⟨x.now, (f x.peer).last + 1⟩ : BRow)].map encW)) ty70 ty69 rfl rfl h104 rfl rfl (by refine Even.map _ ?_ _; intro _; rfl) (by intro x hx; obtain ⟨_, _, rfl⟩ := List.mem_map.1 hx; rfl) rfl (by simp; omega) (by simp; omega) ?_)
                  intro av111 G111 h111
                  rw [← List.map_append] at h111
                  refine g_freeze 111 rfl h111 ?_
                  refine m_takel 11 rfl rfl (by kernel_rfl) (by kernel_rfl) (by kernel_rfl) (fun _ _ _ _ h => h) (vl_fieldAddr ty72 fo72_2 ty70 rfl) rfl rfl ?_
                  refine m_one 12 (by kernel_rfl) rfl rfl ?_
                  refine sm_any rfl (s_store (new := (encOP ⟨(f x.peer).last + 1, (nextBase (f x.peer) x.now), ((f x.peer).waits ++ [(⟨x.now, (f x.peer).last + 1⟩ : BRow)])⟩)) ty70 rfl rfl rfl rfl rfl rfl rfl ?_)
                  refine m_done (by kernel_rfl) ?_
                  first | refine g_keep [0, 1, 5, 6, 7, 10, 11, 12] [8, 9] [8, 9] (keep_cons rfl (keep_cons rfl (keep_cons rfl (keep_cons rfl (keep_cons rfl (keep_cons rfl (keep_cons rfl (keep_cons rfl keep_nil)))))))) (lkeep_cons rfl (lkeep_cons rfl lkeep_nil)) (keep_cons rfl (keep_cons rfl keep_nil)) rfl ?_ | refine g_keep [0, 1, 5, 6, 7, 10, 11, 12] [8, 9] [8, 9] rfl rfl rfl rfl ?_
                  first | exact g_has ⟨h1, rfl, rfl, rfl, ⟨hO1, hs1, hab1, hs_H1, hhr1, hrm1, hsn⟩⟩
                 ·
                  refine ⟨_, rfl, .inl ⟨rfl, ?_⟩⟩
                  refine sm_val (v_loadl ty3 rfl rfl rfl rfl) rfl rfl ?_
                  refine m_take 8 false rfl rfl (by kernel_rfl) (by kernel_rfl) (by kernel_rfl) (fun _ _ _ _ h => h) (v_build (vs := [(0, _), (1, _)]) (zs := [(.int .i64 0), .nil0]) (cells := [_, _]) ty69 pl69 rfl rfl rfl) rfl rfl ?_
                  refine m_all (is := [3, 9]) (by kernel_rfl) rfl (fun _ _ _ => trivial) (fun i hi => ?_)
                  rcases (by simpa using hi : i = 3 ∨ i = 9) with rfl | rfl
                  ·
                   refine ⟨_, rfl, .inl ⟨rfl, ?_⟩⟩
                   refine sm_any rfl (s_append (l := []) (m := ((f x.peer).waits.map encW)) ty70 ty69 rfl rfl (Own.nil ..) rfl rfl (by refine Even.map _ ?_ _; intro _; rfl) (by intro x hx; obtain ⟨_, _, rfl⟩ := List.mem_map.1 hx; rfl) rfl (by simp; omega) (by simp; omega) ?_)
                   intro av104 G104 h104
                   rw [List.nil_append] at h104
                   refine m_one 9 (by kernel_rfl) rfl rfl ?_
                   refine sm_lit ty70 ty69 rfl rfl rfl rfl rfl rfl rfl ?_
                   refine m_one 10 (by kernel_rfl) rfl rfl ?_
                   refine sm_any rfl (s_append (l := ((f x.peer).waits.map encW)) (m := ([(⟨x.now, (f x.peer).last + 1⟩ : BRow)].map encW)) ty70 ty69 rfl rfl h104 rfl rfl (by refine Even.map _ ?_ _; intro _; rfl) (by intro x hx; obtain ⟨_, _, rfl⟩ := List.mem_map.1 hx; rfl) rfl (by simp; omega) (by simp; omega) ?_)
                   intro av111 G111 h111
                   rw [← List.map_append] at h111
                   refine g_freeze 111 rfl h111 ?_
                   refine m_takel 11 rfl rfl (by kernel_rfl) (by kernel_rfl) (by kernel_rfl) (fun _ _ _ _ h => h) (vl_fieldAddr ty72 fo72_2 ty70 rfl) rfl rfl ?_
                   refine m_one 12 (by kernel_rfl) rfl rfl ?_
                   refine sm_any rfl (s_store (new := (encOP ⟨(f x.peer).last + 1, (nextBase (f x.peer) x.now), ((f x.peer).waits ++ [(⟨x.now, (f x.peer).last + 1⟩ : BRow)])⟩)) ty70 rfl rfl rfl rfl rfl rfl rfl ?_)
                   refine m_done (by kernel_rfl) ?_
                   first | refine g_keep [0, 1, 5, 6, 7, 10, 11, 12] [8, 9] [8, 9] (keep_cons rfl (keep_cons rfl (keep_cons rfl (keep_cons rfl (keep_cons rfl (keep_cons rfl (keep_cons rfl (keep_cons rfl keep_nil)))))))) (lkeep_cons rfl (lkeep_cons rfl lkeep_nil)) (keep_cons rfl (keep_cons rfl keep_nil)) rfl ?_ | refine g_keep [0, 1, 5, 6, 7, 10, 11, 12] [8, 9] [8, 9] rfl rfl rfl rfl ?_
                   first | exact g_has ⟨h1, rfl, rfl, rfl, ⟨hO1, hs1, hab1, hs_H1, hhr1, hrm1, hsn⟩⟩
                  ·
                   refine ⟨_, rfl, .inl ⟨rfl, ?_⟩⟩
                   refine sm_lit ty70 ty69 rfl rfl rfl rfl rfl rfl rfl ?_
                   refine m_one 3 (by kernel_rfl) rfl rfl ?_
                   refine sm_any rfl (s_append (l := []) (m := ((f x.peer).waits.map encW)) ty70 ty69 rfl rfl (Own.nil ..) rfl rfl (by refine Even.map _ ?_ _; intro _; rfl) (by intro x hx; obtain ⟨_, _, rfl⟩ := List.mem_map.1 hx; rfl) rfl (by simp; omega) (by simp; omega) ?_)
                   intro av104 G104 h104
                   rw [List.nil_append] at h104
                   refine m_one 10 (by kernel_rfl) rfl rfl ?_
                   refine sm_any rfl (s_append (l := ((f x.peer).waits.map encW)) (m := ([(⟨x.now, (f x.peer).last + 1⟩ : BRow)].map encW)) ty70 ty69 rfl rfl h104 rfl rfl (by refine Even.map _ ?_ _; intro _; rfl) (by intro x hx; obtain ⟨_, _, rfl⟩ := List.mem_map.1 hx; rfl) rfl (by simp; omega) (by simp; omega) ?_)
                   intro av111 G111 h111
                   rw [← List.map_append] at h111
                   refine g_freeze 111 rfl h111 ?_
                   refine m_takel 11 rfl rfl (by kernel_rfl) (by kernel_rfl) (by kernel_rfl) (fun _ _ _ _ h => h) (vl_fieldAddr ty72 fo72_2 ty70 rfl) rfl rfl ?_
                   refine m_one 12 (by kernel_rfl) rfl rfl ?_
                   refine sm_any rfl (s_store (new := (encOP ⟨(f x.peer).last + 1, (nextBase (f x.peer) x.now), ((f x.peer).waits ++ [(⟨x.now, (f x.peer).last + 1⟩ : BRow)])⟩)) ty70 rfl rfl rfl rfl rfl rfl rfl ?_)
                   refine m_done (by kernel_rfl) ?_
                   first | refine g_keep [0, 1, 5, 6, 7, 10, 11, 12] [8, 9] [8, 9] (keep_cons rfl (keep_cons rfl (keep_cons rfl (keep_cons rfl (keep_cons rfl (keep_cons rfl (keep_cons rfl (keep_cons rfl keep_nil)))))))) (lkeep_cons rfl (lkeep_cons rfl lkeep_nil)) (keep_cons rfl (keep_cons rfl keep_nil)) rfl ?_ | refine g_keep [0, 1, 5, 6, 7, 10, 11, 12] [8, 9] [8, 9] rfl rfl rfl rfl ?_
                   first | exact g_has ⟨h1, rfl, rfl, rfl, ⟨hO1, hs1, hab1, hs_H1, hhr1, hrm1, hsn⟩⟩
                ·
                 refine ⟨_, rfl, .inl ⟨rfl, ?_⟩⟩
                 refine sm_val (v_loadl ty3 rfl rfl rfl rfl) rfl rfl ?_
                 refine m_take 8 false rfl rfl (by kernel_rfl) (by kernel_rfl) (by kernel_rfl) (fun _ _ _ _ h => h) (v_build (vs := [(0, _), (1, _)]) (zs := [(.int .i64 0), .nil0]) (cells := [_, _]) ty69 pl69 rfl rfl rfl) rfl rfl ?_
                 refine m_all (is := [2, 9]) (by kernel_rfl) rfl (fun _ _ _ => trivial) (fun i hi => ?_)
                 rcases (by simpa using hi : i = 2 ∨ i = 9) with rfl | rfl
                 ·
                  refine ⟨_, rfl, .inl ⟨rfl, ?_⟩⟩
                  refine sm_val (v_loadl ty70 rfl rfl rfl rfl) rfl rfl ?_
                  refine m_all (is := [3, 9]) (by kernel_rfl) rfl (fun _ _ _ => trivial) (fun i hi => ?_)
                  rcases (by simpa using hi : i = 3 ∨ i = 9) with rfl | rfl
                  ·
                   refine ⟨_, rfl, .inl ⟨rfl, ?_⟩⟩
                   refine sm_any rfl (s_append (l := []) (m := ((f x.peer).waits.map encW)) ty70 ty69 rfl rfl (Own.nil ..) rfl rfl (by refine Even.map _ ?_ _; intro _; rfl) (by intro x hx; obtain ⟨_, _, rfl⟩ := List.mem_map.1 hx; rfl) rfl (by simp; omega) (by simp; omega) ?_)
                   intro av104 G104 h104
                   rw [List.nil_append] at h104
                   refine m_one 9 (by kernel_rfl) rfl rfl ?_
                   refine sm_lit ty70 ty69 rfl rfl rfl rfl rfl rfl rfl ?_
                   refine m_one 10 (by kernel_rfl) rfl rfl ?_
                   refine sm_any rfl (s_append (l := ((f x.peer).waits.map encW)) (m := ([(⟨x.now, (f x.peer).last + 1⟩ : BRow)].map encW)) ty70 ty69 rfl rfl h104 rfl rfl (by refine Even.map _ ?_ _; intro _; rfl) (by intro x hx; obtain ⟨_, _, rfl⟩ := List.mem_map.1 hx; rfl) rfl (by simp; omega) (by simp; omega) ?_)
                   intro av111 G111 h111
                   rw [← List.map_append] at h111
                   refine g_freeze 111 rfl h111 ?_
                   refine m_takel 11 rfl rfl (by kernel_rfl) (by kernel_rfl) (by kernel_rfl) (fun _ _ _ _ h => h) (vl_fieldAddr ty72 fo72_2 ty70 rfl) rfl rfl ?_
                   refine m_one 12 (by kernel_rfl) rfl rfl ?_
                   refine sm_any rfl (s_store (new := (encOP ⟨(f x.peer).last + 1, (nextBase (f x.peer) x.now), ((f x.peer).waits ++ [(⟨x.now, (f x.peer).last + 1⟩ : BRow)])⟩)) ty70 rfl rfl rfl rfl rfl rfl rfl ?_)
                   refine m_done (by kernel_rfl) ?_
                   first | refine g_keep [0, 1, 5, 6, 7, 10, 11, 12] [8, 9] [8, 9] (keep_cons rfl (keep_cons rfl (keep_cons rfl (keep_cons rfl (keep_cons rfl (keep_cons rfl (keep_cons rfl (keep_cons rfl keep_nil)))))))) (lkeep_cons rfl (lkeep_cons rfl lkeep_nil)) (keep_cons rfl (keep_cons rfl keep_nil)) rfl ?_ | refine g_keep [0, 1, 5, 6, 7, 10, 11, 12] [8, 9] [8, 9] rfl rfl rfl rfl ?_
                   first | exact g_has ⟨h1, rfl, rfl, rfl, ⟨hO1, hs1, hab1, hs_H1, hhr1, hrm1, hsn⟩⟩
                  ·
                   refine ⟨_, rfl, .inl ⟨rfl, ?_⟩⟩
                   refine sm_lit ty70 ty69 rfl rfl rfl rfl rfl rfl rfl ?_
                   refine m_one 3 (by kernel_rfl) rfl rfl ?_
                   refine sm_any rfl (s_append (l := []) (m := ((f x.peer).waits.map encW)) ty70 ty69 rfl rfl (Own.nil ..) rfl rfl (by refine Even.map _ ?_ _; intro _; rfl) (by intro x hx; obtain ⟨_, _, rfl⟩ := List.mem_map.1 hx; rfl) rfl (by simp; omega) (by simp; omega) ?_)
                   intro av104 G104 h104
                   rw [List.nil_append] at h104
                   refine m_one 10 (by kernel_rfl) rfl rfl ?_
                   refine sm_any rfl (s_append (l := ((f x.peer).waits.map encW)) (m := ([(⟨x.now, (f x.peer).last + 1⟩ : BRow)].map encW)) ty70 ty69 rfl rfl h104 rfl rfl (by refine Even.map _ ?_ _; intro _; rfl) (by intro x hx; obtain ⟨_, _, rfl⟩ := List.mem_map.1 hx; rfl) rfl (by simp; omega) (by simp; omega) ?_)
                   intro av111 G111 h111
                   rw [← List.map_append] at h111
                   refine g_freeze 111 rfl h111 ?_
                   refine m_takel 11 rfl rfl (by kernel_rfl) (by kernel_rfl) (by kernel_rfl) (fun _ _ _ _ h => h) (vl_fieldAddr ty72 fo72_2 ty70 rfl) rfl rfl ?_
                   refine m_one 12 (by kernel_rfl) rfl rfl ?_
                   refine sm_any rfl (s_store (new := (encOP ⟨(f x.peer).last + 1, (nextBase (f x.peer) x.now), ((f x.peer).waits ++ [(⟨x.now, (f x.peer).last + 1⟩ : BRow)])⟩)) ty70 rfl rfl rfl rfl rfl rfl rfl ?_)
                   refine m_done (by kernel_rfl) ?_
                   first | refine g_keep [0, 1, 5, 6, 7, 10, 11, 12] [8, 9] [8, 9] (keep_cons rfl (keep_cons rfl (keep_cons rfl (keep_cons rfl (keep_cons rfl (keep_cons rfl (keep_cons rfl (keep_cons rfl keep_nil)))))))) (lkeep_cons rfl (lkeep_cons rfl lkeep_nil)) (keep_cons rfl (keep_cons rfl keep_nil)) rfl ?_ | refine g_keep [0, 1, 5, 6, 7, 10, 11, 12] [8, 9] [8, 9] rfl rfl rfl rfl ?_
                   first | exact g_has ⟨h1, rfl, rfl, rfl, ⟨hO1, hs1, hab1, hs_H1, hhr1, hrm1, hsn⟩⟩
                 ·
                  refine ⟨_, rfl, .inl ⟨rfl, ?_⟩⟩
                  refine sm_lit ty70 ty69 rfl rfl rfl rfl rfl rfl rfl ?_
                  refine m_one 2 (by kernel_rfl) rfl rfl ?_
                  refine sm_val (v_loadl ty70 rfl rfl rfl rfl) rfl rfl ?_
                  refine m_one 3 (by kernel_rfl) rfl rfl ?_
                  refine sm_any rfl (s_append (l := []) (m := ((f x.peer).waits.map encW)) ty70 ty69 rfl rfl (Own.nil ..) rfl rfl (by refine Even.map _ ?_ _; intro _; rfl) (by intro x hx; obtain ⟨_, _, rfl⟩ := List.mem_map.1 hx; rfl) rfl (by simp; omega) (by simp; omega) ?_)
                  intro av104 G104 h104
                  rw [List.nil_append] at h104
                  refine m_one 10 (by kernel_rfl) rfl rfl ?_
                  refine sm_any rfl (s_append (l := ((f x.peer).waits.map encW)) (m := ([(⟨x.now, (f x.peer).last + 1⟩ : BRow)].map encW)) ty70 ty69 rfl rfl h104 rfl rfl (by refine Even.map _ ?_ _; intro _; rfl) (by intro x hx; obtain ⟨_, _, rfl⟩ := List.mem_map.1 hx; rfl) rfl (by simp; omega) (by simp; omega) ?_)
                  intro av111 G111 h111
                  rw [← List.map_append] at h111
                  refine g_freeze 111 rfl h111 ?_
                  refine m_takel 11 rfl rfl (by kernel_rfl) (by kernel_rfl) (by kernel_rfl) (fun _ _ _ _ h => h) (vl_fieldAddr ty72 fo72_2 ty70 rfl) rfl rfl ?_
                  refine m_one 12 (by kernel_rfl) rfl rfl ?_
                  refine sm_any rfl (s_store (new := (encOP ⟨(f x.peer).last + 1, (nextBase (f x.peer) x.now), ((f x.peer).waits ++ [(⟨x.now, (f x.peer).last + 1⟩ : BRow)])⟩)) ty70 rfl rfl rfl rfl rfl rfl rfl ?_)
                  refine m_done (by kernel_rfl) ?_
                  first | refine g_keep [0, 1, 5, 6, 7, 10, 11, 12] [8, 9] [8, 9] (keep_cons rfl (keep_cons rfl (keep_cons rfl (keep_cons rfl (keep_cons rfl (keep_cons rfl (keep_cons rfl (keep_cons rfl keep_nil)))))))) (lkeep_cons rfl (lkeep_cons rfl lkeep_nil)) (keep_cons rfl (keep_cons rfl keep_nil)) rfl ?_ | refine g_keep [0, 1, 5, 6, 7, 10, 11, 12] [8, 9] [8, 9] rfl rfl rfl rfl ?_
                  first | exact g_has ⟨h1, rfl, rfl, rfl, ⟨hO1, hs1, hab1, hs_H1, hhr1, hrm1, hsn⟩⟩
              ·
               refine ⟨_, rfl, .inl ⟨rfl, ?_⟩⟩
               refine sm_val (v_loadl ty70 rfl rfl rfl rfl) rfl rfl ?_
               refine m_all (is := [0, 5, 7]) (by kernel_rfl) rfl (fun _ _ _ => trivial) (fun i hi => ?_)
               rcases (by simpa using hi : i = 0 ∨ i = 5 ∨ i = 7) with rfl | rfl | rfl
               ·
                refine ⟨_, rfl, .inl ⟨rfl, ?_⟩⟩
                refine sm_lit0 ty70 ty69 rfl ?_
                refine m_all (is := [3, 5, 7]) (by kernel_rfl) rfl (fun _ _ _ => trivial) (fun i hi => ?_)
                rcases (by simpa using hi : i = 3 ∨ i = 5 ∨ i = 7) with rfl | rfl | rfl
                ·
                 refine ⟨_, rfl, .inl ⟨rfl, ?_⟩⟩
                 refine sm_any rfl (s_append (l := []) (m := ((f x.peer).waits.map encW)) ty70 ty69 rfl rfl (Own.nil ..) rfl rfl (by refine Even.map _ ?_ _; intro _; rfl) (by intro x hx; obtain ⟨_, _, rfl⟩ := List.mem_map.1 hx; rfl) rfl (by simp; omega) (by simp; omega) ?_)
                 intro av104 G104 h104
                 rw [List.nil_append] at h104
                 refine m_all (is := [5, 7]) (by kernel_rfl) rfl (fun _ _ _ => trivial) (fun i hi => ?_)
                 rcases (by simpa using hi : i = 5 ∨ i = 7) with rfl | rfl
                 ·
                  refine ⟨_, rfl, .inl ⟨rfl, ?_⟩⟩
                  refine sm_val (v_loadl ty3 rfl rfl rfl rfl) rfl rfl ?_
                  refine m_one 7 (by kernel_rfl) rfl rfl ?_
                  refine sm_val (v_loadl ty64 rfl rfl rfl rfl) rfl rfl ?_
                  refine m_take 8 false rfl rfl (by kernel_rfl) (by kernel_rfl) (by kernel_rfl) (fun _ _ _ _ h => h) (v_build (vs := [(0, _), (1, _)]) (zs := [(.int .i64 0), .nil0]) (cells := [_, _]) ty69 pl69 rfl rfl rfl) rfl rfl ?_
                  refine m_one 9 (by kernel_rfl) rfl rfl ?_
                  refine sm_lit ty70 ty69 rfl rfl rfl rfl rfl rfl rfl ?_
                  refine m_one 10 (by kernel_rfl) rfl rfl ?_
                  refine sm_any rfl (s_append (l := ((f x.peer).waits.map encW)) (m := ([(⟨x.now, (f x.peer).last + 1⟩ : BRow)].map encW)) ty70 ty69 rfl rfl h104 rfl rfl (by refine Even.map _ ?_ _; intro _; rfl) (by intro x hx; obtain ⟨_, _, rfl⟩ := List.mem_map.1 hx; rfl) rfl (by simp; omega) (by simp; omega) ?_)
                  intro av111 G111 h111
                  rw [← List.map_append] at h111
                  refine g_freeze 111 rfl h111 ?_
                  refine m_takel 11 rfl rfl (by kernel_rfl) (by kernel_rfl) (by kernel_rfl) (fun _ _ _ _ h => h) (vl_fieldAddr ty72 fo72_2 ty70 rfl) rfl rfl ?_
                  refine m_one 12 (by kernel_rfl) rfl rfl ?_
                  refine sm_any rfl (s_store (new := (encOP ⟨(f x.peer).last + 1, (nextBase (f x.peer) x.now), ((f x.peer).waits ++ [(⟨x.now, (f x.peer).last + 1⟩ : BRow)])⟩)) ty70 rfl rfl rfl rfl rfl rfl rfl ?_)
                  refine m_done (by kernel_rfl) ?_
                  first | refine g_keep [0, 1, 5, 6, 7, 10, 11, 12] [8, 9] [8, 9] (keep_cons rfl (keep_cons rfl (keep_cons rfl (keep_cons rfl (keep_cons rfl (keep_cons rfl (keep_cons rfl (keep_cons rfl keep_nil)))))))) (lkeep_cons rfl (lkeep_cons rfl lkeep_nil)) (keep_cons rfl (keep_cons rfl keep_nil)) rfl ?_ | refine g_keep [0, 1, 5, 6, 7, 10, 11, 12] [8, 9] [8, 9] rfl rfl rfl rfl ?_
                  first | exact g_has ⟨h1, rfl, rfl, rfl, ⟨hO1, hs1, hab1, hs_H1, hhr1, hrm1, hsn⟩⟩
                 ·
                  refine ⟨_, rfl, .inl ⟨rfl, ?_⟩⟩
                  refine sm_val (v_loadl ty64 rfl rfl rfl rfl) rfl rfl ?_
                  refine m_one 5 (by kernel_rfl) rfl rfl ?_
                  refine sm_val (v_loadl ty3 rfl rfl rfl rfl) rfl rfl ?_
                  refine m_take 8 false rfl rfl (by kernel_rfl) (by kernel_rfl) (by kernel_rfl) (fun _ _ _ _ h => h) (v_build (vs := [(0, _), (1, _)]) (zs := [(.int .i64 0), .nil0]) (cells := [_, _]) ty69 pl69 rfl rfl rfl) rfl rfl ?_
                  refine m_one 9 (by kernel_rfl) rfl rfl ?_
                  refine sm_lit ty70 ty69 rfl rfl rfl rfl rfl rfl rfl ?_
                  refine m_one 10 (by kernel_rfl) rfl rfl ?_
                  refine sm_any rfl (s_append (l := ((f x.peer).waits.map encW)) (m := ([(⟨x.now, (f x.peer).last + 1⟩ : BRow)].map encW)) ty70 ty69 rfl rfl h104 rfl rfl (by refine Even.map _ ?_ _; intro _; rfl) (by intro x hx; obtain ⟨_, _, rfl⟩ := List.mem_map.1 hx; rfl) rfl (by simp; omega) (by simp; omega) ?_)
                  intro av111 G111 h111
                  rw [← List.map_append] at h111
                  refine g_freeze 111 rfl h111 ?_
                  refine m_takel 11 rfl rfl (by kernel_rfl) (by kernel_rfl) (by kernel_rfl) (fun _ _ _ _ h => h) (vl_fieldAddr ty72 fo72_2 ty70 rfl) rfl rfl ?_
                  refine m_one 12 (by kernel_rfl) rfl rfl ?_
                  refine sm_any rfl (s_store (new := (encOP ⟨(f x.peer).last + 1, (nextBase (f x.peer) x.now), ((f x.peer).waits ++ [(⟨x.now, (f x.peer).last + 1⟩ : BRow)])⟩)) ty70 rfl rfl rfl rfl rfl rfl rfl ?_)
                  refine m_done (by kernel_rfl) ?_
                  first | refine g_keep [0, 1, 5, 6, 7, 10, 11, 12] [8, 9] [8, 9] (keep_cons rfl (keep_cons rfl (keep_cons rfl (keep_cons rfl (keep_cons rfl (keep_cons rfl (keep_cons rfl (keep_cons rfl keep_nil)))))))) (lkeep_cons rfl (lkeep_cons rfl lkeep_nil)) (keep_cons rfl (keep_cons rfl keep_nil)) rfl ?_ | refine g_keep [0, 1, 5, 6, 7, 10, 11, 12] [8, 9] [8, 9] rfl rfl rfl rfl ?_
                  first | exact g_has ⟨h1, rfl, rfl, rfl, ⟨hO1, hs1, hab1, hs_H1, hhr1, hrm1, hsn⟩⟩
                ·
                 refine ⟨_, rfl, .inl ⟨rfl, ?_⟩⟩
                 refine sm_val (v_loadl ty3 rfl rfl rfl rfl) rfl rfl ?_
                 refine m_all (is := [3, 7]) (by kernel_rfl) rfl (fun _ _ _ => trivial) (fun i hi => ?_)
                 rcases (by simpa using hi : i = 3 ∨ i = 7) with rfl | rfl
                 ·
                  refine ⟨_, rfl, .inl ⟨rfl, ?_⟩⟩
                  refine sm_any rfl (s_append (l := []) (m := ((f x.peer).waits.map encW)) ty70 ty69 rfl rfl (Own.nil ..) rfl rfl (by refine Even.map _ ?_ _; intro _; rfl) (by intro x hx; obtain ⟨_, _, rfl⟩ := List.mem_map.1 hx; rfl) rfl (by simp; omega) (by simp; omega) ?_)
                  intro av104 G104 h104
                  rw [List.nil_append] at h104
                  refine m_one 7 (by kernel_rfl) rfl rfl ?_
                  refine sm_val (v_loadl ty64 rfl rfl rfl rfl) rfl rfl ?_
                  refine m_take 8 false rfl rfl (by kernel_rfl) (by kernel_rfl) (by kernel_rfl) (fun _ _ _ _ h => h) (v_build (vs := [(0, _), (1, _)]) (zs := [(.int .i64 0), .nil0]) (cells := [_, _]) ty69 pl69 rfl rfl rfl) rfl rfl ?_
                  refine m_one 9 (by kernel_rfl) rfl rfl ?_
                  refine sm_lit ty70 ty69 rfl rfl rfl rfl rfl rfl rfl ?_
                  refine m_one 10 (by kernel_rfl) rfl rfl ?_
                  refine sm_any rfl (s_append (l := ((f x.peer).waits.map encW)) (m := ([(⟨x.now, (f x.peer).last + 1⟩ : BRow)].map encW)) ty70 ty69 rfl rfl h104 rfl rfl (by refine Even.map _ ?_ _; intro _; rfl) (by intro x hx; obtain ⟨_, _, rfl⟩ := List.mem_map.1 hx; rfl) rfl (by simp; omega) (by simp; omega) ?_)
                  intro av111 G111 h111
                  rw [← List.map_append] at h111
                  refine g_freeze 111 rfl h111 ?_
                  refine m_takel 11 rfl rfl (by kernel_rfl) (by kernel_rfl) (by kernel_rfl) (fun _ _ _ _ h => h) (vl_fieldAddr ty72 fo72_2 ty70 rfl) rfl rfl ?_
                  refine m_one 12 (by kernel_rfl) rfl rfl ?_
                  refine sm_any rfl (s_store (new := (encOP ⟨(f x.peer).last + 1, (nextBase (f x.peer) x.now), ((f x.peer).waits ++ [(⟨x.now, (f x.peer).last + 1⟩ : BRow)])⟩)) ty70 rfl rfl rfl rfl rfl rfl rfl ?_)
                  refine m_done (by kernel_rfl) ?_
                  first | refine g_keep [0, 1, 5, 6, 7, 10, 11, 12] [8, 9] [8, 9] (keep_cons rfl (keep_cons rfl (keep_cons rfl (keep_cons rfl (keep_cons rfl (keep_cons rfl (keep_cons rfl (keep_cons rfl keep_nil)))))))) (lkeep_cons rfl (lkeep_cons rfl lkeep_nil)) (keep_cons rfl (keep_cons rfl keep_nil)) rfl ?_ | refine g_keep [0, 1, 5, 6, 7, 10, 11, 12] [8, 9] [8, 9] rfl rfl rfl rfl ?_
                  first | exact g_has ⟨h1, rfl, rfl, rfl, ⟨hO1, hs1, hab1, hs_H1, hhr1, hrm1, hsn⟩⟩
                 ·
                  refine ⟨_, rfl, .inl ⟨rfl, ?_⟩⟩
                  refine sm_val (v_loadl ty64 rfl rfl rfl rfl) rfl rfl ?_
                  refine m_take 8 false rfl rfl (by kernel_rfl) (by kernel_rfl) (by kernel_rfl) (fun _ _ _ _ h => h) (v_build (vs := [(0, _), (1, _)]) (zs := [(.int .i64 0), .nil0]) (cells := [_, _]) ty69 pl69 rfl rfl rfl) rfl rfl ?_
                  refine m_all (is := [3, 9]) (by kernel_rfl) rfl (fun _ _ _ => trivial) (fun i hi => ?_)
                  rcases (by simpa using hi : i = 3 ∨ i = 9) with rfl | rfl
                  ·
                   refine ⟨_, rfl, .inl ⟨rfl, ?_⟩⟩
                   refine sm_any rfl (s_append (l := []) (m := ((f x.peer).waits.map encW)) ty70 ty69 rfl rfl (Own.nil ..) rfl rfl (by refine Even.map _ ?_ _; intro _; rfl) (by intro x hx; obtain ⟨_, _, rfl⟩ := List.mem_map.1 hx; rfl) rfl (by simp; omega) (by simp; omega) ?_)
                   intro av104 G104 h104
                   rw [List.nil_append] at h104
                   refine m_one 9 (by kernel_rfl) rfl rfl ?_
                   refine sm_lit ty70 ty69 rfl rfl rfl rfl rfl rfl rfl ?_
                   refine m_one 10 (by kernel_rfl) rfl rfl ?_
                   refine sm_any rfl (s_append (l := ((f x.peer).waits.map encW)) (m := ([(⟨x.now, (f x.peer).last + 1⟩ : BRow)].map encW)) ty70 ty69 rfl rfl h104 rfl rfl (by refine Even.map _ ?_ _; intro _; rfl) (by intro x hx; obtain ⟨_, _, rfl⟩ := List.mem_map.1 hx; rfl) rfl (by simp; omega) (by simp; omega) ?_)
                   intro av111 G111 h111
                   rw [← List.map_append] at h111
                   refine g_freeze 111 rfl h111 ?_
                   refine m_takel 11 rfl rfl (by kernel_rfl) (by kernel_rfl) (by kernel_rfl) (fun _ _ _ _ h => h) (vl_fieldAddr ty72 fo72_2 ty70 rfl) rfl rfl ?_
                   refine m_one 12 (by kernel_rfl) rfl rfl ?_
                   refine sm_any rfl (s_store (new := (encOP ⟨(f x.peer).last + 1, (nextBase (f x.peer) x.now), ((f x.peer).waits ++ [(⟨x.now, (f x.peer).last + 1⟩ : BRow)])⟩)) ty70 rfl rfl rfl rfl rfl rfl rfl ?_)
                   refine m_done (by kernel_rfl) ?_
                   first | refine g_keep [0, 1, 5, 6, 7, 10, 11, 12] [8, 9] [8, 9] (keep_cons rfl (keep_cons rfl (keep_cons rfl (keep_cons rfl (keep_cons rfl (keep_cons rfl (keep_cons rfl (keep_cons rfl keep_nil)))))))) (lkeep_cons rfl (lkeep_cons rfl lkeep_nil)) (keep_cons rfl (keep_cons rfl keep_nil)) rfl ?_ | refine g_keep [0, 1, 5, 6, 7, 10, 11, 12] [8, 9] [8, 9] rfl rfl rfl rfl ?_
                   first | exact g_has ⟨h1, rfl, rfl, rfl, ⟨hO1, hs1, hab1, hs_H1, hhr1, hrm1, hsn⟩⟩
                  ·
                   refine ⟨_, rfl, .inl ⟨rfl, ?_⟩⟩
                   refine sm_lit ty70 ty69 rfl rfl rfl rfl rfl rfl rfl ?_
                   refine m_one 3 (by kernel_rfl) rfl rfl ?_
                   refine sm_any rfl (s_append (l := []) (m := ((f x.peer).waits.map encW)) ty70 ty69 rfl rfl (Own.nil ..) rfl rfl (by refine Even.map _ ?_ _; intro _; rfl) (by intro x hx; obtain ⟨_, _, rfl⟩ := List.mem_map.1 hx; rfl) rfl (by simp; omega) (by simp; omega) ?_)
                   intro av104 G104 h104
                   rw [List.nil_append] at h104
                   refine m_one 10 (by kernel_rfl) rfl rfl ?_
                   refine sm_any rfl (s_append (l := ((f x.peer).waits.map encW)) (m := ([(⟨x.now, (f x.peer).last + 1⟩ : BRow)].map encW)) ty70 ty69 rfl rfl h104 rfl rfl (by refine Even.map _ ?_ _; intro _; rfl) (by intro x hx; obtain ⟨_, _, rfl⟩ := List.mem_map.1 hx; rfl) rfl (by simp; omega) (by simp; omega) ?_)
                   intro av111 G111 h111
                   rw [← List.map_append] at h111
                   refine g_freeze 111 rfl h111 ?_
                   refine m_takel 11 rfl rfl (by kernel_rfl) (by kernel_rfl) (by kernel_rfl) (fun _ _ _ _ h => h) (vl_fieldAddr ty72 fo72_2 ty70 rfl) rfl rfl ?_
                   refine m_one 12 (by kernel_rfl) rfl rfl ?_
                   refine sm_any rfl (s_store (new := (encOP ⟨(f x.peer).last + 1, (nextBase (f x.peer) x.now), ((f x.peer).waits ++ [(⟨x.now, (f x.peer).last + 1⟩ : BRow)])⟩)) ty70 rfl rfl rfl rfl rfl rfl rfl ?_)
                   refine m_done (by kernel_rfl) ?_
                   first | refine g_keep [0, 1, 5, 6, 7, 10, 11, 12] [8, 9] [8, 9] (keep_cons rfl (keep_cons rfl (keep_cons rfl (keep_cons rfl (keep_cons rfl (keep_cons rfl (keep_cons rfl (keep_cons rfl keep_nil)))))))) (lkeep_cons rfl (lkeep_cons rfl lkeep_nil)) (keep_cons rfl (keep_cons rfl keep_nil)) rfl ?_ | refine g_keep [0, 1, 5, 6, 7, 10, 11, 12] [8, 9] [8, 9] rfl rfl rfl rfl ?_
                   first | exact g_has ⟨h1, rfl, rfl, rfl, ⟨hO1, hs1, hab1, hs_H1, hhr1, hrm1, hsn⟩⟩
                ·
                 refine ⟨_, rfl, .inl ⟨rfl, ?_⟩⟩
                 refine sm_val (v_loadl ty64 rfl rfl rfl rfl) rfl rfl ?_
                 refine m_all (is := [3, 5]) (by kernel_rfl) rfl (fun _ _ _ => trivial) (fun i hi => ?_)
                 rcases (by simpa using hi : i = 3 ∨ i = 5) with rfl | rfl
                 ·
                  refine ⟨_, rfl, .inl ⟨rfl, ?_⟩⟩
                  refine sm_any rfl (s_append (l := []) (m := ((f x.peer).waits.map encW)) ty70 ty69 rfl rfl (Own.nil ..) rfl rfl (by refine Even.map _ ?_ _; intro _; rfl) (by intro x hx; obtain ⟨_, _, rfl⟩ := List.mem_map.1 hx; rfl) rfl (by simp; omega) (by simp; omega) ?_)
                  intro av104 G104 h104
                  rw [List.nil_append] at h104
                  refine m_one 5 (by kernel_rfl) rfl rfl ?_
                  refine sm_val (v_loadl ty3 rfl rfl rfl rfl) rfl rfl ?_
                  refine m_take 8 false rfl rfl (by kernel_rfl) (by kernel_rfl) (by kernel_rfl) (fun _ _ _ _ h => h) (v_build (vs := [(0, _), (1, _)]) (zs := [(.int .i64 0), .nil0]) (cells := [_, _]) ty69 pl69 rfl rfl rfl) rfl rfl ?_
                  refine m_one 9 (by kernel_rfl) rfl rfl ?_
                  refine sm_lit ty70 ty69 rfl rfl rfl rfl rfl rfl rfl ?_
                  refine m_one 10 (by kernel_rfl) rfl rfl ?_
                  refine sm_any rfl (s_append (l := ((f x.peer).waits.map encW)) (m := ([(⟨x.now, (f x.peer).last + 1⟩ : BRow)].map encW)) ty70 ty69 rfl rfl h104 rfl rfl (by refine Even.map _ ?_ _; intro _; rfl) (by intro x hx; obtain ⟨_, _, rfl⟩ := List.mem_map.1 hx; rfl) rfl (by simp; omega) (by simp; omega) ?_)
                  intro av111 G111 h111
                  rw [← List.map_append] at h111
                  refine g_freeze 111 rfl h111 ?_
                  refine m_takel 11 rfl rfl (by kernel_rfl) (by kernel_rfl) (by kernel_rfl) (fun _ _ _ _ h => h) (vl_fieldAddr ty72 fo72_2 ty70 rfl) rfl rfl ?_
                  refine m_one 12 (by kernel_rfl) rfl rfl ?_
                  refine sm_any rfl (s_store (new := (encOP ⟨(f x.peer).last + 1, (nextBase (f x.peer) x.now), ((f x.peer).waits ++ [(⟨x.now, (f x.peer).last + 1⟩ : BRow)])⟩)) ty70 rfl rfl rfl rfl rfl rfl rfl ?_)
                  refine m_done (by kernel_rfl) ?_
                  first | refine g_keep [0, 1, 5, 6, 7, 10, 11, 12] [8, 9] [8, 9] (keep_cons rfl (keep_cons rfl (keep_cons rfl (keep_cons rfl (keep_cons rfl (keep_cons rfl (keep_cons rfl (keep_cons rfl keep_nil)))))))) (lkeep_cons rfl (lkeep_cons rfl lkeep_nil)) (keep_cons rfl (keep_cons rfl keep_nil)) rfl ?_ | refine g_keep [0, 1, 5, 6, 7, 10, 11, 12] [8, 9] [8, 9] rfl rfl rfl rfl ?_
                  first | exact g_has ⟨h1, rfl, rfl, rfl, ⟨hO1, hs1, hab1, hs_H1, hhr1, hrm1, hsn⟩⟩
                 ·
                  refine ⟨_, rfl, .inl ⟨rfl, ?_⟩⟩
                  refine sm_val (v_loadl ty3 rfl rfl rfl rfl) rfl rfl ?_
                  refine m_take 8 false rfl rfl (by kernel_rfl) (by kernel_rfl) (by kernel_rfl) (fun _ _ _ _ h => h) (v_build (vs := [(0, _), (1, _)]) (zs := [(.int .i64 0), .nil0]) (cells := [_, _]) ty69 pl69 rfl rfl rfl) rfl rfl ?_
                  refine m_all (is := [3, 9]) (by kernel_rfl) rfl (fun _ _ _ => trivial) (fun i hi => ?_)
                  rcases (by simpa using hi : i = 3 ∨ i = 9) with rfl | rfl
                  ·
                   refine ⟨_, rfl, .inl ⟨rfl, ?_⟩⟩
                   refine sm_any rfl (s_append (l := []) (m := ((f x.peer).waits.map encW)) ty70 ty69 rfl rfl (Own.nil ..) rfl rfl (by refine Even.map _ ?_ _; intro _; rfl) (by intro x hx; obtain ⟨_, _, rfl⟩ := List.mem_map.1 hx; rfl) rfl (by simp; omega) (by simp; omega) ?_)
                   intro av104 G104 h104
                   rw [List.nil_append] at h104
                   refine m_one 9 (by kernel_rfl) rfl rfl ?_
                   refine sm_lit ty70 ty69 rfl rfl rfl rfl rfl rfl rfl ?_
                   refine m_one 10 (by kernel_rfl) rfl rfl ?_
                   refine sm_any rfl (s_append (l := ((f x.peer).waits.map encW)) (m := ([(⟨x.now, (f x.peer).last + 1⟩ : BRow)].map encW)) ty70 ty69 rfl rfl h104 rfl rfl (by refine Even.map _ ?_ _; intro _; rfl) (by intro x hx; obtain ⟨_, _, rfl⟩ := List.mem_map.1 hx; rfl) rfl (by simp; omega) (by simp; omega) ?_)
                   intro av111 G111 h111
                   rw [← List.map_append] at h111
                   refine g_freeze 111 rfl h111 ?_
                   refine m_takel 11 rfl rfl (by kernel_rfl) (by kernel_rfl) (by kernel_rfl) (fun _ _ _ _ h => h) (vl_fieldAddr ty72 fo72_2 ty70 rfl) rfl rfl ?_
                   refine m_one 12 (by kernel_rfl) rfl rfl ?_
                   refine sm_any rfl (s_store (new := (encOP ⟨(f x.peer).last + 1, (nextBase (f x.peer) x.now), ((f x.peer).waits ++ [(⟨x.now, (f x.peer).last + 1⟩ : BRow)])⟩)) ty70 rfl rfl rfl rfl rfl rfl rfl ?_)
                   refine m_done (by kernel_rfl) ?_
                   first | refine g_keep [0, 1, 5, 6, 7, 10, 11, 12] [8, 9] [8, 9] (keep_cons rfl (keep_cons rfl (keep_cons rfl (keep_cons rfl (keep_cons rfl (keep_cons rfl (keep_cons rfl (keep_cons rfl keep_nil)))))))) (lkeep_cons rfl (lkeep_cons rfl lkeep_nil)) (keep_cons rfl (keep_cons rfl keep_nil)) rfl ?_ | refine g_keep [0, 1, 5, 6, 7, 10, 11, 12] [8, 9] [8, 9] rfl rfl rfl rfl ?_
                   first | exact g_has ⟨h1, rfl, rfl, rfl, ⟨hO1, hs1, hab1, hs_H1, hhr1, hrm1, hsn⟩⟩
                  ·
                   refine ⟨_, rfl, .inl ⟨rfl, ?_⟩⟩
                   refine sm_lit ty70 ty69 rfl rfl rfl rfl rfl rfl rfl ?_
                   refine m_one 3 (by kernel_rfl) rfl rfl ?_
                   refine sm_any rfl (s_append (l := []) (m := ((f x.peer).waits.map encW)) ty70 ty69 rfl rfl (Own.nil ..) rfl rfl (by refine Even.map _ ?_ _; intro _; rfl) (by intro x hx; obtain ⟨_, _, rfl⟩ := List.mem_map.1 hx; rfl) rfl (by simp; omega) (by simp; omega) ?_)
                   intro av104 G104 h104
                   rw [List.nil_append] at h104
                   refine m_one 10 (by kernel_rfl) rfl rfl ?_
                   refine sm_any rfl (s_append (l := ((f x.peer).waits.map encW)) (m := ([(⟨x.now, (f x.peer).last + 1⟩ : BRow)].map encW)) ty70 ty69 rfl rfl h104 rfl rfl (by refine Even.map _ ?_ _; intro _; rfl) (by intro x hx; obtain ⟨_, _, rfl⟩ := List.mem_map.1 hx; rfl) rfl (by simp; omega) (by simp; omega) ?_)
                   intro av111 G111 h111
                   rw [← List.map_append] at h111
                   refine g_freeze 111 rfl h111 ?_
                   refine m_takel 11 rfl rfl (by kernel_rfl) (by kernel_rfl) (by kernel_rfl) (fun _ _ _ _ h => h) (vl_fieldAddr ty72 fo72_2 ty70 rfl) rfl rfl ?_
                   refine m_one 12 (by kernel_rfl) rfl rfl ?_
                   refine sm_any rfl (s_store (new := (encOP ⟨(f x.peer).last + 1, (nextBase (f x.peer) x.now), ((f x.peer).waits ++ [(⟨x.now, (f x.peer).last + 1⟩ : BRow)])⟩)) ty70 rfl rfl rfl rfl rfl rfl rfl ?_)
                   refine m_done (by kernel_rfl) ?_
                   first | refine g_keep [0, 1, 5, 6, 7, 10, 11, 12] [8, 9] [8, 9] (keep_cons rfl (keep_cons rfl (keep_cons rfl (keep_cons rfl (keep_cons rfl (keep_cons rfl (keep_cons rfl (keep_cons rfl keep_nil)))))))) (lkeep_cons rfl (lkeep_cons rfl lkeep_nil)) (keep_cons rfl (keep_cons rfl keep_nil)) rfl ?_ | refine g_keep [0, 1, 5, 6, 7, 10, 11, 12] [8, 9] [8, 9] rfl rfl rfl rfl ?_
                   first | exact g_has ⟨h1, rfl, rfl, rfl, ⟨hO1, hs1, hab1, hs_H1, hhr1, hrm1, hsn⟩⟩
               ·
                refine ⟨_, rfl, .inl ⟨rfl, ?_⟩⟩
                refine sm_val (v_loadl ty3 rfl rfl rfl rfl) rfl rfl ?_
                refine m_all (is := [0, 7]) (by kernel_rfl) rfl (fun _ _ _ => trivial) (fun i hi => ?_)
                rcases (by simpa using hi : i = 0 ∨ i = 7) with rfl | rfl
                ·
                 refine ⟨_, rfl, .inl ⟨rfl, ?_⟩⟩
                 refine sm_lit0 ty70 ty69 rfl ?_
                 refine m_all (is := [3, 7]) (by kernel_rfl) rfl (fun _ _ _ => trivial) (fun i hi => ?_)
                 rcases (by simpa using hi : i = 3 ∨ i = 7) with rfl | rfl
                 ·
                  refine ⟨_, rfl, .inl ⟨rfl, ?_⟩⟩
                  refine sm_any rfl (s_append (l := []) (m := ((f x.peer).waits.map encW)) ty70 ty69 rfl rfl (Own.nil ..) rfl rfl (by refine Even.map _ ?_ _; intro _; rfl) (by intro x hx; obtain ⟨_, _, rfl⟩ := List.mem_map.1 hx; rfl) rfl (by simp; omega) (by simp; omega) ?_)
                  intro av104 G104 h104
                  rw [List.nil_append] at h104
                  refine m_one 7 (by kernel_rfl) rfl rfl ?_
                  refine sm_val (v_loadl ty64 rfl rfl rfl rfl) rfl rfl ?_
                  refine m_take 8 false rfl rfl (by kernel_rfl) (by kernel_rfl) (by kernel_rfl) (fun _ _ _ _ h => h) (v_build (vs := [(0, _), (1, _)]) (zs := [(.int .i64 0), .nil0]) (cells := [_, _]) ty69 pl69 rfl rfl rfl) rfl rfl ?_
                  refine m_one 9 (by kernel_rfl) rfl rfl ?_
                  refine sm_lit ty70 ty69 rfl rfl rfl rfl rfl rfl rfl ?_
                  refine m_one 10 (by kernel_rfl) rfl rfl ?_
                  refine sm_any rfl (s_append (l := ((f x.peer).waits.map encW)) (m := ([(⟨x.now, (f x.peer).last + 1⟩ : BRow)].map encW)) ty70 ty69 rfl rfl h104 rfl rfl (by refine Even.map _ ?_ _; intro _; rfl) (by intro x hx; obtain ⟨_, _, rfl⟩ := List.mem_map.1 hx; rfl) rfl (by simp; omega) (by simp; omega) ?_)
                  intro av111 G111 h111
                  rw [← List.map_append] at h111
                  refine g_freeze 111 rfl h111 ?_
                  refine m_takel 11 rfl rfl (by kernel_rfl) (by kernel_rfl) (by kernel_rfl) (fun _ _ _ _ h => h) (vl_fieldAddr ty72 fo72_2 ty70 rfl) rfl rfl ?_
                  refine m_one 12 (by kernel_rfl) rfl rfl ?_
                  refine sm_any rfl (s_store (new := (encOP ⟨(f x.peer).last + 1, (nextBase (f x.peer) x.now), ((f x.peer).waits ++ [(⟨x.now, (f x.peer).last + 1⟩ : BRow)])⟩)) ty70 rfl rfl rfl rfl rfl rfl rfl ?_)
                  refine m_done (by kernel_rfl) ?_
                  first | refine g_keep [0, 1, 5, 6, 7, 10, 11, 12] [8, 9] [8, 9] (keep_cons rfl (keep_cons rfl (keep_cons rfl (keep_cons rfl (keep_cons rfl (keep_cons rfl (keep_cons rfl (keep_cons rfl keep_nil)))))))) (lkeep_cons rfl (lkeep_cons rfl lkeep_nil)) (keep_cons rfl (keep_cons rfl keep_nil)) rfl ?_ | refine g_keep [0, 1, 5, 6, 7, 10, 11, 12] [8, 9] [8, 9] rfl rfl rfl rfl ?_
                  first | exact g_has ⟨h1, rfl, rfl, rfl, ⟨hO1, hs1, hab1, hs_H1, hhr1, hrm1, hsn⟩⟩
                 ·
                  refine ⟨_, rfl, .inl ⟨rfl, ?_⟩⟩
                  refine sm_val (v_loadl ty64 rfl rfl rfl rfl) rfl rfl ?_
                  refine m_take 8 false rfl rfl (by kernel_rfl) (by kernel_rfl) (by kernel_rfl) (fun _ _ _ _ h => h) (v_build (vs := [(0, _), (1, _)]) (zs := [(.int .i64 0), .nil0]) (cells := [_, _]) ty69 pl69 rfl rfl rfl) rfl rfl ?_
                  refine m_all (is := [3, 9]) (by kernel_rfl) rfl (fun _ _ _ => trivial) (fun i hi => ?_)
                  rcases (by simpa using hi : i = 3 ∨ i = 9) with rfl | rfl
                  ·
                   refine ⟨_, rfl, .inl ⟨rfl, ?_⟩⟩
                   refine sm_any rfl (s_append (l := []) (m := ((f x.peer).waits.map encW)) ty70 ty69 rfl rfl (Own.nil ..) rfl rfl (by refine Even.map _ ?_ _; intro _; rfl) (by intro x hx; obtain ⟨_, _, rfl⟩ := List.mem_map.1 hx; rfl) rfl (by simp; omega) (by simp; omega) ?_)
                   intro av104 G104 h104
                   rw [List.nil_append] at h104
                   refine m_one 9 (by kernel_rfl) rfl rfl ?_
                   refine sm_lit ty70 ty69 rfl rfl rfl rfl rfl rfl rfl ?_
                   refine m_one 10 (by kernel_rfl) rfl rfl ?_
                   refine sm_any rfl (s_append (l := ((f x.peer).waits.map encW)) (m := ([(⟨x.now, (f x.peer).last + 1⟩ : BRow)].map encW)) ty70 ty69 rfl rfl h104 rfl rfl (by refine Even.map _ ?_ _; intro _; rfl) (by intro x hx; obtain ⟨_, _, rfl⟩ := List.mem_map.1 hx; rfl) rfl (by simp; omega) (by simp; omega) ?_)
                   intro av111 G111 h111
                   rw [← List.map_append] at h111
                   refine g_freeze 111 rfl h111 ?_
                   refine m_takel 11 rfl rfl (by kernel_rfl) (by kernel_rfl) (by kernel_rfl) (fun _ _ _ _ h => h) (vl_fieldAddr ty72 fo72_2 ty70 rfl) rfl rfl ?_
                   refine m_one 12 (by kernel_rfl) rfl rfl ?_
                   refine sm_any rfl (s_store (new := (encOP ⟨(f x.peer).last + 1, (nextBase (f x.peer) x.now), ((f x.peer).waits ++ [(⟨x.now, (f x.peer).last + 1⟩ : BRow)])⟩)) ty70 rfl rfl rfl rfl rfl rfl rfl ?_)
                   refine m_done (by kernel_rfl) ?_
                   first | refine g_keep [0, 1, 5, 6, 7, 10, 11, 12] [8, 9] [8, 9] (keep_cons rfl (keep_cons rfl (keep_cons rfl (keep_cons rfl (keep_cons rfl (keep_cons rfl (keep_cons rfl (keep_cons rfl keep_nil)))))))) (lkeep_cons rfl (lkeep_cons rfl lkeep_nil)) (keep_cons rfl (keep_cons rfl keep_nil)) rfl ?_ | refine g_keep [0, 1, 5, 6, 7, 10, 11, 12] [8, 9] [8, 9] rfl rfl rfl rfl ?_
                   first | exact g_has ⟨h1, rfl, rfl, rfl, ⟨hO1, hs1, hab1, hs_H1, hhr1, hrm1, hsn⟩⟩
                  ·
                   refine ⟨_, rfl, .inl ⟨rfl, ?_⟩⟩
                   refine sm_lit ty70 ty69 rfl rfl rfl rfl rfl rfl rfl ?_
                   refine m_one 3 (by kernel_rfl) rfl rfl ?_
                   refine sm_any rfl (s_append (l := []) (m := ((f x.peer).waits.map encW)) ty70 ty69 rfl rfl (Own.nil ..) rfl rfl (by refine Even.map _ ?_ _; intro _; rfl) (by intro x hx; obtain ⟨_, _, rfl⟩ := List.mem_map.1 hx; rfl) rfl (by simp; omega) (by simp; omega) ?_)
                   intro av104 G104 h104
                   rw [List.nil_append] at h104
                   refine m_one 10 (by kernel_rfl) rfl rfl ?_
                   refine sm_any rfl (s_append (l := ((f x.peer).waits.map encW)) (m := ([(⟨x.now, (f x.peer).last + 1⟩ : BRow)].map encW)) ty70 ty69 rfl rfl h104 rfl rfl (by refine Even.map _ ?_ _; intro _; rfl) (by intro x hx; obtain ⟨_, _, rfl⟩ := List.mem_map.1 hx; rfl) rfl (by simp; omega) (by simp; omega) ?_)
                   intro av111 G111 h111
                   rw [← List.map_append] at h111
                   refine g_freeze 111 rfl h111 ?_
                   refine m_takel 11 rfl rfl (by kernel_rfl) (by kernel_rfl) (by kernel_rfl) (fun _ _ _ _ h => h) (vl_fieldAddr ty72 fo72_2 ty70 rfl) rfl rfl ?_
                   refine m_one 12 (by kernel_rfl) rfl rfl ?_
                   refine sm_any rfl (s_store (new := (encOP ⟨(f x.peer).last + 1, (nextBase (f x.peer) x.now), ((f x.peer).waits ++ [(⟨x.now, (f x.peer).last + 1⟩ : BRow)])⟩)) ty70 rfl rfl rfl rfl rfl rfl rfl ?_)
                   refine m_done (by kernel_rfl) ?_
                   first | refine g_keep [0, 1, 5, 6, 7, 10, 11, 12] [8, 9] [8, 9] (keep_cons rfl (keep_cons rfl (keep_cons rfl (keep_cons rfl (keep_cons rfl (keep_cons rfl (keep_cons rfl (keep_cons rfl keep_nil)))))))) (lkeep_cons rfl (lkeep_cons rfl lkeep_nil)) (keep_cons rfl (keep_cons rfl keep_nil)) rfl ?_ | refine g_keep [0, 1, 5, 6, 7, 10, 11, 12] [8, 9] [8, 9] rfl rfl rfl rfl ?_
                   first | exact g_has ⟨h1, rfl, rfl, rfl, ⟨hO1, hs1, hab1, hs_H1, hhr1, hrm1, hsn⟩⟩
                ·
                 refine ⟨_, rfl, .inl ⟨rfl, ?_⟩⟩
                 refine sm_val (v_loadl ty64 rfl rfl rfl rfl) rfl rfl ?_
                 refine m_take 8 false rfl rfl (by kernel_rfl) (by kernel_rfl) (by kernel_rfl) (fun _ _ _ _ h => h) (v_build (vs := [(0, _), (1, _)]) (zs := [(.int .i64 0), .nil0]) (cells := [_, _]) ty69 pl69 rfl rfl rfl) rfl rfl ?_
                 refine m_all (is := [0, 9]) (by kernel_rfl) rfl (fun _ _ _ => trivial) (fun i hi => ?_)
                 rcases (by simpa using hi : i = 0 ∨ i = 9) with rfl | rfl
                 ·
                  refine ⟨_, rfl, .inl ⟨rfl, ?_⟩⟩
                  refine sm_lit0 ty70 ty69 rfl ?_
                  refine m_all (is := [3, 9]) (by kernel_rfl) rfl (fun _ _ _ => trivial) (fun i hi => ?_)
                  rcases (by simpa using hi : i = 3 ∨ i = 9) with rfl | rfl
                  ·
                   refine ⟨_, rfl, .inl ⟨rfl, ?_⟩⟩
                   refine sm_any rfl (s_append (l := []) (m := ((f x.peer).waits.map encW)) ty70 ty69 rfl rfl (Own.nil ..) rfl rfl (by refine Even.map _ ?_ _; intro _; rfl) (by intro x hx; obtain ⟨_, _, rfl⟩ := List.mem_map.1 hx; rfl) rfl (by simp; omega) (by simp; omega) ?_)
                   intro av104 G104 h104
                   rw [List.nil_append] at h104
                   refine m_one 9 (by kernel_rfl) rfl rfl ?_
                   refine sm_lit ty70 ty69 rfl rfl rfl rfl rfl rfl rfl ?_
                   refine m_one 10 (by kernel_rfl) rfl rfl ?_
                   refine sm_any rfl (s_append (l := ((f x.peer).waits.map encW)) (m := ([(⟨x.now, (f x.peer).last + 1⟩ : BRow)].map encW)) ty70 ty69 rfl rfl h104 rfl rfl (by refine Even.map _ ?_ _; intro _; rfl) (by intro x hx; obtain ⟨_, _, rfl⟩ := List.mem_map.1 hx; rfl) rfl (by simp; omega) (by simp; omega) ?_)
                   intro av111 G111 h111
                   rw [← List.map_append] at h111
                   refine g_freeze 111 rfl h111 ?_
                   refine m_takel 11 rfl rfl (by kernel_rfl) (by kernel_rfl) (by kernel_rfl) (fun _ _ _ _ h => h) (vl_fieldAddr ty72 fo72_2 ty70 rfl) rfl rfl ?_
                   refine m_one 12 (by kernel_rfl) rfl rfl ?_
                   refine sm_any rfl (s_store (new := (encOP ⟨(f x.peer).last + 1, (nextBase (f x.peer) x.now), ((f x.peer).waits ++ [(⟨x.now, (f x.peer).last + 1⟩ : BRow)])⟩)) ty70 rfl rfl rfl rfl rfl rfl rfl ?_)
                   refine m_done (by kernel_rfl) ?_
                   first | refine g_keep [0, 1, 5, 6, 7, 10, 11, 12] [8, 9] [8, 9] (keep_cons rfl (keep_cons rfl (keep_cons rfl (keep_cons rfl (keep_cons rfl (keep_cons rfl (keep_cons rfl (keep_cons rfl keep_nil)))))))) (lkeep_cons rfl (lkeep_cons rfl lkeep_nil)) (keep_cons rfl (keep_cons rfl keep_nil)) rfl ?_ | refine g_keep [0, 1, 5, 6, 7, 10, 11, 12] [8, 9] [8, 9] rfl rfl rfl rfl ?_
                   first | exact g_has ⟨h1, rfl, rfl, rfl, ⟨hO1, hs1, hab1, hs_H1, hhr1, hrm1, hsn⟩⟩
                  ·
                   refine ⟨_, rfl, .inl ⟨rfl, ?_⟩⟩
                   refine sm_lit ty70 ty69 rfl rfl rfl rfl rfl rfl rfl ?_
                   refine m_one 3 (by kernel_rfl) rfl rfl ?_
                   refine sm_any rfl (s_append (l := []) (m := ((f x.peer).waits.map encW)) ty70 ty69 rfl rfl (Own.nil ..) rfl rfl (by refine Even.map _ ?_ _; intro _; rfl) (by intro x hx; obtain ⟨_, _, rfl⟩ := List.mem_map.1 hx; rfl) rfl (by simp; omega) (by simp; omega) ?_)
                   intro av104 G104 h104
                   rw [List.nil_append] at h104
                   refine m_one 10 (by kernel_rfl) rfl rfl ?_
                   refine sm_any rfl (s_append (l := ((f x.peer).waits.map encW)) (m := ([(⟨x.now, (f x.peer).last + 1⟩ : BRow)].map encW)) ty70 ty69 rfl rfl h104 rfl rfl (by refine Even.map _ ?_ _; intro _; rfl) (by intro x hx; obtain ⟨_, _, rfl⟩ := List.mem_map.1 hx; rfl) rfl (by simp; omega) (by simp; omega) ?_)
                   intro av111 G111 h111
                   rw [← List.map_append] at h111
                   refine g_freeze 111 rfl h111 ?_
                   refine m_takel 11 rfl rfl (by kernel_rfl) (by kernel_rfl) (by kernel_rfl) (fun _ _ _ _ h => h) (vl_fieldAddr ty72 fo72_2 ty70 rfl) rfl rfl ?_
                   refine m_one 12 (by kernel_rfl) rfl rfl ?_
                   refine sm_any rfl (s_store (new := (encOP ⟨(f x.peer).last + 1, (nextBase (f x.peer) x.now), ((f x.peer).waits ++ [(⟨x.now, (f x.peer).last + 1⟩ : BRow)])⟩)) ty70 rfl rfl rfl rfl rfl rfl rfl ?_)
                   refine m_done (by kernel_rfl) ?_
                   first | refine g_keep [0, 1, 5, 6, 7, 10, 11, 12] [8, 9] [8, 9] (keep_cons rfl (keep_cons rfl (keep_cons rfl (keep_cons rfl (keep_cons rfl (keep_cons rfl (keep_cons rfl (keep_cons rfl keep_nil)))))))) (lkeep_cons rfl (lkeep_cons rfl lkeep_nil)) (keep_cons rfl (keep_cons rfl keep_nil)) rfl ?_ | refine g_keep [0, 1, 5, 6, 7, 10, 11, 12] [8, 9] [8, 9] rfl rfl rfl rfl ?_
                   first | exact g_has ⟨h1, rfl, rfl, rfl, ⟨hO1, hs1, hab1, hs_H1, hhr1, hrm1, hsn⟩⟩
                 ·
                  refine ⟨_, rfl, .inl ⟨rfl, ?_⟩⟩
                  refine sm_lit ty70 ty69 rfl rfl rfl rfl rfl rfl rfl ?_
                  refine m_one 0 (by kernel_rfl) rfl rfl ?_
                  refine sm_lit0 ty70 ty69 rfl ?_
                  refine m_one 3 (by kernel_rfl) rfl rfl ?_
                  refine sm_any rfl (s_append (l := []) (m := ((f x.peer).waits.map encW)) ty70 ty69 rfl rfl (Own.nil ..) rfl rfl (by refine Even.map _ ?_ _; intro _; rfl) (by intro x hx; obtain ⟨_, _, rfl⟩ := List.mem_map.1 hx; rfl) rfl (by simp; omega) (by simp; omega) ?_)
                  intro av104 G104 h104
                  rw [List.nil_append] at h104
                  refine m_one 10 (by kernel_rfl) rfl rfl ?_
                  refine sm_any rfl (s_append (l := ((f x.peer).waits.map encW)) (m := ([(⟨x.now, (f x.peer).last + 1⟩ : BRow)].map encW)) ty70 ty69 rfl rfl h104 rfl rfl (by refine Even.map _ ?_ _; intro _; rfl) (by intro x hx; obtain ⟨_, _, rfl⟩ := List.mem_map.1 hx; rfl) rfl (by simp; omega) (by simp; omega) ?_)
                  intro av111 G111 h111
                  rw [← List.map_append] at h111
                  refine g_freeze 111 rfl h111 ?_
                  refine m_takel 11 rfl rfl (by kernel_rfl) (by kernel_rfl) (by kernel_rfl) (fun _ _ _ _ h => h) (vl_fieldAddr ty72 fo72_2 ty70 rfl) rfl rfl ?_
                  refine m_one 12 (by kernel_rfl) rfl rfl ?_
                  refine sm_any rfl (s_store (new := (encOP ⟨(f x.peer).last + 1, (nextBase (f x.peer) x.now), ((f x.peer).waits ++ [(⟨x.now, (f x.peer).last + 1⟩ : BRow)])⟩)) ty70 rfl rfl rfl rfl rfl rfl rfl ?_)
                  refine m_done (by kernel_rfl) ?_
                  first | refine g_keep [0, 1, 5, 6, 7, 10, 11, 12] [8, 9] [8, 9] (keep_cons rfl (keep_cons rfl (keep_cons rfl (keep_cons rfl (keep_cons rfl (keep_cons rfl (keep_cons rfl (keep_cons rfl keep_nil)))))))) (lkeep_cons rfl (lkeep_cons rfl lkeep_nil)) (keep_cons rfl (keep_cons rfl keep_nil)) rfl ?_ | refine g_keep [0, 1, 5, 6, 7, 10, 11, 12] [8, 9] [8, 9] rfl rfl rfl rfl ?_
                  first | exact g_has ⟨h1, rfl, rfl, rfl, ⟨hO1, hs1, hab1, hs_H1, hhr1, hrm1, hsn⟩⟩
               ·
                refine ⟨_, rfl, .inl ⟨rfl, ?_⟩⟩
                refine sm_val (v_loadl ty64 rfl rfl rfl rfl) rfl rfl ?_
                refine m_all (is := [0, 5]) (by kernel_rfl) rfl (fun _ _ _ => trivial) (fun i hi => ?_)
                rcases (by simpa using hi : i = 0 ∨ i = 5) with rfl | rfl
                ·
                 refine ⟨_, rfl, .inl ⟨rfl, ?_⟩⟩
                 refine sm_lit0 ty70 ty69 rfl ?_
                 refine m_all (is := [3, 5]) (by kernel_rfl) rfl (fun _ _ _ => trivial) (fun i hi => ?_)
                 rcases (by simpa using hi : i = 3 ∨ i = 5) with rfl | rfl
                 ·
                  refine ⟨_, rfl, .inl ⟨rfl, ?_⟩⟩
                  refine sm_any rfl (s_append (l := []) (m := ((f x.peer).waits.map encW)) ty70 ty69 rfl rfl (Own.nil ..) rfl rfl (by refine Even.map _ ?_ _; intro _; rfl) (by intro x hx; obtain ⟨_, _, rfl⟩ := List.mem_map.1 hx; rfl) rfl (by simp; omega) (by simp; omega) ?_)
                  intro av104 G104 h104
                  rw [List.nil_append] at h104
                  refine m_one 5 (by kernel_rfl) rfl rfl ?_
                  refine sm_val (v_loadl ty3 rfl rfl rfl rfl) rfl rfl ?_
                  refine m_take 8 false rfl rfl (by kernel_rfl) (by kernel_rfl) (by kernel_rfl) (fun _ _ _ _ h => h) (v_build (vs := [(0, _), (1, _)]) (zs := [(.int .i64 0), .nil0]) (cells := [_, _]) ty69 pl69 rfl rfl rfl) rfl rfl ?_
                  refine m_one 9 (by kernel_rfl) rfl rfl ?_
                  refine sm_lit ty70 ty69 rfl rfl rfl rfl rfl rfl rfl ?_
                  refine m_one 10 (by kernel_rfl) rfl rfl ?_
                  refine sm_any rfl (s_append (l := ((f x.peer).waits.map encW)) (m := ([(⟨x.now, (f x.peer).last + 1⟩ : BRow)].map encW)) ty70 ty69 rfl rfl h104 rfl rfl (by refine Even.map _ ?_ _; intro _; rfl) (by intro x hx; obtain ⟨_, _, rfl⟩ := List.mem_map.1 hx; rfl) rfl (by simp; omega) (by simp; omega) ?_)
                  intro av111 G111 h111
                  rw [← List.map_append] at h111
                  refine g_freeze 111 rfl h111 ?_
                  refine m_takel 11 rfl rfl (by kernel_rfl) (by kernel_rfl) (by kernel_rfl) (fun _ _ _ _ h => h) (vl_fieldAddr ty72 fo72_2 ty70 rfl) rfl rfl ?_
                  refine m_one 12 (by kernel_rfl) rfl rfl ?_
                  refine sm_any rfl (s_store (new := (encOP ⟨(f x.peer).last + 1, (nextBase (f x.peer) x.now), ((f x.peer).waits ++ [(⟨x.now, (f x.peer).last + 1⟩ : BRow)])⟩)) ty70 rfl rfl rfl rfl rfl rfl rfl ?_)
                  refine m_done (by kernel_rfl) ?_
                  first | refine g_keep [0, 1, 5, 6, 7, 10, 11, 12] [8, 9] [8, 9] (keep_cons rfl (keep_cons rfl (keep_cons rfl (keep_cons rfl (keep_cons rfl (keep_cons rfl (keep_cons rfl (keep_cons rfl keep_nil)))))))) (lkeep_cons rfl (lkeep_cons rfl lkeep_nil)) (keep_cons rfl (keep_cons rfl keep_nil)) rfl ?_ | refine g_keep [0, 1, 5, 6, 7, 10, 11, 12] [8, 9] [8, 9] rfl rfl rfl rfl ?_
                  first | exact g_has ⟨h1, rfl, rfl, rfl, ⟨hO1, hs1, hab1, hs_H1, hhr1, hrm1, hsn⟩⟩
                 ·
                  refine ⟨_, rfl, .inl ⟨rfl, ?_⟩⟩
                  refine sm_val (v_loadl ty3 rfl rfl rfl rfl) rfl rfl ?_
                  refine m_take 8 false rfl rfl (by kernel_rfl) (by kernel_rfl) (by kernel_rfl) (fun _ _ _ _ h => h) (v_build (vs := [(0, _), (1, _)]) (zs := [(.int .i64 0), .nil0]) (cells := [_, _]) ty69 pl69 rfl rfl rfl) rfl rfl ?_
                  refine m_all (is := [3, 9]) (by kernel_rfl) rfl (fun _ _ _ => trivial) (fun i hi => ?_)
                  rcases (by simpa using hi : i = 3 ∨ i = 9) with rfl | rfl
                  ·
                   refine ⟨_, rfl, .inl ⟨rfl, ?_⟩⟩
                   refine sm_any rfl (s_append (l := []) (m := ((f x.peer).waits.map encW)) ty70 ty69 rfl rfl (Own.nil ..) rfl rfl (by refine Even.map _ ?_ _; intro _; rfl) (by intro x hx; obtain ⟨_, _, rfl⟩ := List.mem_map.1 hx; rfl) rfl (by simp; omega) (by simp; omega) ?_)
                   intro av104 G104 h104
                   rw [List.nil_append] at h104
                   refine m_one 9 (by kernel_rfl) rfl rfl ?_
                   refine sm_lit ty70 ty69 rfl rfl rfl rfl rfl rfl rfl ?_
                   refine m_one 10 (by kernel_rfl) rfl rfl ?_
                   refine sm_any rfl (s_append (l := ((f x.peer).waits.map encW)) (m := ([(⟨x.now, (f x.peer).last + 1⟩ : BRow)].map encW)) ty70 ty69 rfl rfl h104 rfl rfl (by refine Even.map _ ?_ _; intro _; rfl) (by intro x hx; obtain ⟨_, _, rfl⟩ := List.mem_map.1 hx; rfl) rfl (by simp; omega) (by simp; omega) ?_)
                   intro av111 G111 h111
                   rw [← List.map_append] at h111
                   refine g_freeze 111 rfl h111 ?_
                   refine m_takel 11 rfl rfl (by kernel_rfl) (by kernel_rfl) (by kernel_rfl) (fun _ _ _ _ h => h) (vl_fieldAddr ty72 fo72_2 ty70 rfl) rfl rfl ?_
                   refine m_one 12 (by kernel_rfl) rfl rfl ?_
                   refine sm_any rfl (s_store (new := (encOP ⟨(f x.peer).last + 1, (nextBase (f x.peer) x.now), ((f x.peer).waits ++ [(⟨x.now, (f x.peer).last + 1⟩ : BRow)])⟩)) ty70 rfl rfl rfl rfl rfl rfl rfl ?_)
                   refine m_done (by kernel_rfl) ?_
                   first | refine g_keep [0, 1, 5, 6, 7, 10, 11, 12] [8, 9] [8, 9] (keep_cons rfl (keep_cons rfl (keep_cons rfl (keep_cons rfl (keep_cons rfl (keep_cons rfl (keep_cons rfl (keep_cons rfl keep_nil)))))))) (lkeep_cons rfl (lkeep_cons rfl lkeep_nil)) (keep_cons rfl (keep_cons rfl keep_nil)) rfl ?_ | refine g_keep [0, 1, 5, 6, 7, 10, 11, 12] [8, 9] [8, 9] rfl rfl rfl rfl ?_
                   first | exact g_has ⟨h1, rfl, rfl, rfl, ⟨hO1, hs1, hab1, hs_H1, hhr1, hrm1, hsn⟩⟩
                  ·
                   refine ⟨_, rfl, .inl ⟨rfl, ?_⟩⟩
                   refine sm_lit ty70 ty69 rfl rfl rfl rfl rfl rfl rfl ?_
                   refine m_one 3 (by kernel_rfl) rfl rfl ?_
                   refine sm_any rfl (s_append (l := []) (m := ((f x.peer).waits.map encW)) ty70 ty69 rfl rfl (Own.nil ..) rfl rfl (by refine Even.map _ ?_ _; intro _; rfl) (by intro x hx; obtain ⟨_, _, rfl⟩ := List.mem_map.1 hx; rfl) rfl (by simp; omega) (by simp; omega) ?_)
                   intro av104 G104 h104
                   rw [List.nil_append] at h104
                   refine m_one 10 (by kernel_rfl) rfl rfl ?_
                   refine sm_any rfl (s_append (l := ((f x.peer).waits.map encW)) (m := ([(⟨x.now, (f x.peer).last + 1⟩ : BRow)].map encW)) ty70 ty69 rfl rfl h104 rfl rfl (by refine Even.map _ ?_ _; intro _; rfl) (by intro x hx; obtain ⟨_, _, rfl⟩ := List.mem_map.1 hx; rfl) rfl (by simp; omega) (by simp; omega) ?_)
                   intro av111 G111 h111
                   rw [← List.map_append] at h111
                   refine g_freeze 111 rfl h111 ?_
                   refine m_takel 11 rfl rfl (by kernel_rfl) (by kernel_rfl) (by kernel_rfl) (fun _ _ _ _ h => h) (vl_fieldAddr ty72 fo72_2 ty70 rfl) rfl rfl ?_
                   refine m_one 12 (by kernel_rfl) rfl rfl ?_
                   refine sm_any rfl (s_store (new := (encOP ⟨(f x.peer).last + 1, (nextBase (f x.peer) x.now), ((f x.peer).waits ++ [(⟨x.now, (f x.peer).last + 1⟩ : BRow)])⟩)) ty70 rfl rfl rfl rfl rfl rfl rfl ?_)
                   refine m_done (by kernel_rfl) ?_
                   first | refine g_keep [0, 1, 5, 6, 7, 10, 11, 12] [8, 9] [8, 9] (keep_cons rfl (keep_cons rfl (keep_cons rfl (keep_cons rfl (keep_cons rfl (keep_cons rfl (keep_cons rfl (keep_cons rfl keep_nil)))))))) (lkeep_cons rfl (lkeep_cons rfl lkeep_nil)) (keep_cons rfl (keep_cons rfl keep_nil)) rfl ?_ | refine g_keep [0, 1, 5, 6, 7, 10, 11, 12] [8, 9] [8, 9] rfl rfl rfl rfl ?_
                   first | exact g_has ⟨h1, rfl, rfl, rfl, ⟨hO1, hs1, hab1, hs_H1, hhr1, hrm1, hsn⟩⟩
                ·
                 refine ⟨_, rfl, .inl ⟨rfl, ?_⟩⟩
                 refine sm_val (v_loadl ty3 rfl rfl rfl rfl) rfl rfl ?_
                 refine m_take 8 false rfl rfl (by kernel_rfl) (by kernel_rfl) (by kernel_rfl) (fun _ _ _ _ h => h) (v_build (vs := [(0, _), (1, _)]) (zs := [(.int .i64 0), .nil0]) (cells := [_, _]) ty69 pl69 rfl rfl rfl) rfl rfl ?_
                 refine m_all (is := [0, 9]) (by kernel_rfl) rfl (fun _ _ _ => trivial) (fun i hi => ?_)
                 rcases (by simpa using hi : i = 0 ∨ i = 9) with rfl | rfl
                 ·
                  refine ⟨_, rfl, .inl ⟨rfl, ?_⟩⟩
                  refine sm_lit0 ty70 ty69 rfl ?_
                  refine m_all (is := [3, 9]) (by kernel_rfl) rfl (fun _ _ _ => trivial) (fun i hi => ?_)
                  rcases (by simpa using hi : i = 3 ∨ i = 9) with rfl | rfl
                  ·
                   refine ⟨_, rfl, .inl ⟨rfl, ?_⟩⟩
                   refine sm_any rfl (s_append (l := []) (m := ((f x.peer).waits.map encW)) ty70 ty69 rfl rfl (Own.nil ..) rfl rfl (by refine Even.map _ ?_ _; intro _; rfl) (by intro x hx; obtain ⟨_, _, rfl⟩ := List.mem_map.1 hx; rfl) rfl (by simp; omega) (by simp; omega) ?_)
                   intro av104 G104 h104
                   rw [List.nil_append] at h104
                   refine m_one 9 (by kernel_rfl) rfl rfl ?_
                   refine sm_lit ty70 ty69 rfl rfl rfl rfl rfl rfl rfl ?_
                   refine m_one 10 (by kernel_rfl) rfl rfl ?_
                   refine sm_any rfl (s_append (l := ((f x.peer).waits.map encW)) (m := ([(⟨x.now, (f x.peer).last + 1⟩ : BRow)].map encW)) ty70 ty69 rfl rfl h104 rfl rfl (by refine Even.map _ ?_ _; intro _; rfl) (by intro x hx; obtain ⟨_, _, rfl⟩ := List.mem_map.1 hx; rfl) rfl (by simp; omega) (by simp; omega) ?_)
                   intro av111 G111 h111
                   rw [← List.map_append] at h111
                   refine g_freeze 111 rfl h111 ?_
                   refine m_takel 11 rfl rfl (by kernel_rfl) (by kernel_rfl) (by kernel_rfl) (fun _ _ _ _ h => h) (vl_fieldAddr ty72 fo72_2 ty70 rfl) rfl rfl ?_
                   refine m_one 12 (by kernel_rfl) rfl rfl ?_
                   refine sm_any rfl (s_store (new := (encOP ⟨(f x.peer).last + 1, (nextBase (f x.peer) x.now), ((f x.peer).waits ++ [(⟨x.now, (f x.peer).last + 1⟩ : BRow)])⟩)) ty70 rfl rfl rfl rfl rfl rfl rfl ?_)
                   refine m_done (by kernel_rfl) ?_
                   first | refine g_keep [0, 1, 5, 6, 7, 10, 11, 12] [8, 9] [8, 9] (keep_cons rfl (keep_cons rfl (keep_cons rfl (keep_cons rfl (keep_cons rfl (keep_cons rfl (keep_cons rfl (keep_cons rfl keep_nil)))))))) (lkeep_cons rfl (lkeep_cons rfl lkeep_nil)) (keep_cons rfl (keep_cons rfl keep_nil)) rfl ?_ | refine g_keep [0, 1, 5, 6, 7, 10, 11, 12] [8, 9] [8, 9] rfl rfl rfl rfl ?_
                   first | exact g_has ⟨h1, rfl, rfl, rfl, ⟨hO1, hs1, hab1, hs_H1, hhr1, hrm1, hsn⟩⟩
                  ·
                   refine ⟨_, rfl, .inl ⟨rfl, ?_⟩⟩
                   refine sm_lit ty70 ty69 rfl rfl rfl rfl rfl rfl rfl ?_
                   refine m_one 3 (by kernel_rfl) rfl rfl ?_
                   refine sm_any rfl (s_append (l := []) (m := ((f x.peer).waits.map encW)) ty70 ty69 rfl rfl (Own.nil ..) rfl rfl (by refine Even.map _ ?_ _; intro _; rfl) (by intro x hx; obtain ⟨_, _, rfl⟩ := List.mem_map.1 hx; rfl) rfl (by simp; omega) (by simp; omega) ?_)
                   intro av104 G104 h104
                   rw [List.nil_append] at h104
                   refine m_one 10 (by kernel_rfl) rfl rfl ?_
                   refine sm_any rfl (s_append (l := ((f x.peer).waits.map encW)) (m := ([(⟨x.now, (f x.peer).last + 1⟩ : BRow)].map encW)) ty70 ty69 rfl rfl h104 rfl rfl (by refine Even.map _ ?_ _; intro _; rfl) (by intro x hx; obtain ⟨_, _, rfl⟩ := List.mem_map.1 hx; rfl) rfl (by simp; omega) (by simp; omega) ?_)
                   intro av111 G111 h111
                   rw [← List.map_append] at h111
                   refine g_freeze 111 rfl h111 ?_
                   refine m_takel 11 rfl rfl (by kernel_rfl) (by kernel_rfl) (by kernel_rfl) (fun _ _ _ _ h => h) (vl_fieldAddr ty72 fo72_2 ty70 rfl) rfl rfl ?_
                   refine m_one 12 (by kernel_rfl) rfl rfl ?_
                   refine sm_any rfl (s_store (new := (encOP ⟨(f x.peer).last + 1, (nextBase (f x.peer) x.now), ((f x.peer).waits ++ [(⟨x.now, (f x.peer).last + 1⟩ : BRow)])⟩)) ty70 rfl rfl rfl rfl rfl rfl rfl ?_)
                   refine m_done (by kernel_rfl) ?_
                   first | refine g_keep [0, 1, 5, 6, 7, 10, 11, 12] [8, 9] [8, 9] (keep_cons rfl (keep_cons rfl (keep_cons rfl (keep_cons rfl (keep_cons rfl (keep_cons rfl (keep_cons rfl (keep_cons rfl keep_nil)))))))) (lkeep_cons rfl (lkeep_cons rfl lkeep_nil)) (keep_cons rfl (keep_cons rfl keep_nil)) rfl ?_ | refine g_keep [0, 1, 5, 6, 7, 10, 11, 12] [8, 9] [8, 9] rfl rfl rfl rfl ?_
                   first | exact g_has ⟨h1, rfl, rfl, rfl, ⟨hO1, hs1, hab1, hs_H1, hhr1, hrm1, hsn⟩⟩
                 ·
                  refine ⟨_, rfl, .inl ⟨rfl, ?_⟩⟩
                  refine sm_lit ty70 ty69 rfl rfl rfl rfl rfl rfl rfl ?_
                  refine m_one 0 (by kernel_rfl) rfl rfl ?_
                  refine sm_lit0 ty70 ty69 rfl ?_
                  refine m_one 3 (by kernel_rfl) rfl rfl ?_
                  refine sm_any rfl (s_append (l := []) (m := ((f x.peer).waits.map encW)) ty70 ty69 rfl rfl (Own.nil ..) rfl rfl (by refine Even.map _ ?_ _; intro _; rfl) (by intro x hx; obtain ⟨_, _, rfl⟩ := List.mem_map.1 hx; rfl) rfl (by simp; omega) (by simp; omega) ?_)
                  intro av104 G104 h104
                  rw [List.nil_append] at h104
                  refine m_one 10 (by kernel_rfl) rfl rfl ?_
                  refine sm_any rfl (s_append (l := ((f x.peer).waits.map encW)) (m := ([(⟨x.now, (f x.peer).last + 1⟩ : BRow)].map encW)) ty70 ty69 rfl rfl h104 rfl rfl (by refine Even.map _ ?_ _; intro _; rfl) (by intro x hx; obtain ⟨_, _, rfl⟩ := List.mem_map.1 hx; rfl) rfl (by simp; omega) (by simp; omega) ?_)
                  intro av111 G111 h111
                  rw [← List.map_append] at h111
                  refine g_freeze 111 rfl h111 ?_
                  refine m_takel 11 rfl rfl (by kernel_rfl) (by kernel_rfl) (by kernel_rfl) (fun _ _ _ _ h => h) (vl_fieldAddr ty72 fo72_2 ty70 rfl) rfl rfl ?_
                  refine m_one 12 (by kernel_rfl) rfl rfl ?_
                  refine sm_any rfl (s_store (new := (encOP ⟨(f x.peer).last + 1, (nextBase (f x.peer) x.now), ((f x.peer).waits ++ [(⟨x.now, (f x.peer).last + 1⟩ : BRow)])⟩)) ty70 rfl rfl rfl rfl rfl rfl rfl ?_)
                  refine m_done (by kernel_rfl) ?_
                  first | refine g_keep [0, 1, 5, 6, 7, 10, 11, 12] [8, 9] [8, 9] (keep_cons rfl (keep_cons rfl (keep_cons rfl (keep_cons rfl (keep_cons rfl (keep_cons rfl (keep_cons rfl (keep_cons rfl keep_nil)))))))) (lkeep_cons rfl (lkeep_cons rfl lkeep_nil)) (keep_cons rfl (keep_cons rfl keep_nil)) rfl ?_ | refine g_keep [0, 1, 5, 6, 7, 10, 11, 12] [8, 9] [8, 9] rfl rfl rfl rfl ?_
                  first | exact g_has ⟨h1, rfl, rfl, rfl, ⟨hO1, hs1, hab1, hs_H1, hhr1, hrm1, hsn⟩⟩
              ·
               refine ⟨_, rfl, .inl ⟨rfl, ?_⟩⟩
               refine sm_val (v_loadl ty3 rfl rfl rfl rfl) rfl rfl ?_
               refine m_all (is := [0, 2, 7]) (by kernel_rfl) rfl (fun _ _ _ => trivial) (fun i hi => ?_)
               rcases (by simpa using hi : i = 0 ∨ i = 2 ∨ i = 7) with rfl | rfl | rfl
               ·
                refine ⟨_, rfl, .inl ⟨rfl, ?_⟩⟩
                refine sm_lit0 ty70 ty69 rfl ?_
                refine m_all (is := [2, 7]) (by kernel_rfl) rfl (fun _ _ _ => trivial) (fun i hi => ?_)
                rcases (by simpa using hi : i = 2 ∨ i = 7) with rfl | rfl
                ·
                 refine ⟨_, rfl, .inl ⟨rfl, ?_⟩⟩
                 refine sm_val (v_loadl ty70 rfl rfl rfl rfl) rfl rfl ?_
                 refine m_all (is := [3, 7]) (by kernel_rfl) rfl (fun _ _ _ => trivial) (fun i hi => ?_)
                 rcases (by simpa using hi : i = 3 ∨ i = 7) with rfl | rfl
                 ·
                  refine ⟨_, rfl, .inl ⟨rfl, ?_⟩⟩
                  refine sm_any rfl (s_append (l := []) (m := ((f x.peer).waits.map encW)) ty70 ty69 rfl rfl (Own.nil ..) rfl rfl (by refine Even.map _ ?_ _; intro _; rfl) (by intro x hx; obtain ⟨_, _, rfl⟩ := List.mem_map.1 hx; rfl) rfl (by simp; omega) (by simp; omega) ?_)
                  intro av104 G104 h104
                  rw [List.nil_append] at h104
                  refine m_one 7 (by kernel_rfl) rfl rfl ?_
                  refine sm_val (v_loadl ty64 rfl rfl rfl rfl) rfl rfl ?_
                  refine m_take 8 false rfl rfl (by kernel_rfl) (by kernel_rfl) (by kernel_rfl) (fun _ _ _ _ h => h) (v_build (vs := [(0, _), (1, _)]) (zs := [(.int .i64 0), .nil0]) (cells := [_, _]) ty69 pl69 rfl rfl rfl) rfl rfl ?_
                  refine m_one 9 (by kernel_rfl) rfl rfl ?_
                  refine sm_lit ty70 ty69 rfl rfl rfl rfl rfl rfl rfl ?_
                  refine m_one 10 (by kernel_rfl) rfl rfl ?_
                  refine sm_any rfl (s_append (l := ((f x.peer).waits.map encW)) (m := ([(⟨x.now, (f x.peer).last + 1⟩ : BRow)].map encW)) ty70 ty69 rfl rfl h104 rfl rfl (by refine Even.map _ ?_ _; intro _; rfl) (by intro x hx; obtain ⟨_, _, rfl⟩ := List.mem_map.1 hx; rfl) rfl (by simp; omega) (by simp; omega) ?_)
                  intro av111 G111 h111
                  rw [← List.map_append] at h111
                  refine g_freeze 111 rfl h111 ?_
                  refine m_takel 11 rfl rfl (by kernel_rfl) (by kernel_rfl) (by kernel_rfl) (fun _ _ _ _ h => h) (vl_fieldAddr ty72 fo72_2 ty70 rfl) rfl rfl ?_
                  refine m_one 12 (by kernel_rfl) rfl rfl ?_
                  refine sm_any rfl (s_store (new := (encOP ⟨(f x.peer).last + 1, (nextBase (f x.peer) x.now), ((f x.peer).waits ++ [(⟨x.now, (f x.peer).last + 1⟩ : BRow)])⟩)) ty70 rfl rfl rfl rfl rfl rfl rfl ?_)
                  refine m_done (by kernel_rfl) ?_
                  first | refine g_keep [0, 1, 5, 6, 7, 10, 11, 12] [8, 9] [8, 9] (keep_cons rfl (keep_cons rfl (keep_cons rfl (keep_cons rfl (keep_cons rfl (keep_cons rfl (keep_cons rfl (keep_cons rfl keep_nil)))))))) (lkeep_cons rfl (lkeep_cons rfl lkeep_nil)) (keep_cons rfl (keep_cons rfl keep_nil)) rfl ?_ | refine g_keep [0, 1, 5, 6, 7, 10, 11, 12] [8, 9] [8, 9] rfl rfl rfl rfl ?_
                  first | exact g_has ⟨h1, rfl, rfl, rfl, ⟨hO1, hs1, hab1, hs_H1, hhr1, hrm1, hsn⟩⟩
                 ·
                  refine ⟨_, rfl, .inl ⟨rfl, ?_⟩⟩
                  refine sm_val (v_loadl ty64 rfl rfl rfl rfl) rfl rfl ?_
                  refine m_take 8 false rfl rfl (by kernel_rfl) (by kernel_rfl) (by kernel_rfl) (fun _ _ _ _ h => h) (v_build (vs := [(0, _), (1, _)]) (zs := [(.int .i64 0), .nil0]) (cells := [_, _]) ty69 pl69 rfl rfl rfl) rfl rfl ?_
                  refine m_all (is := [3, 9]) (by kernel_rfl) rfl (fun _ _ _ => trivial) (fun i hi => ?_)
                  rcases (by simpa using hi : i = 3 ∨ i = 9) with rfl | rfl
                  ·
                   refine ⟨_, rfl, .inl ⟨rfl, ?_⟩⟩
                   refine sm_any rfl (s_append (l := []) (m := ((f x.peer).waits.map encW)) ty70 ty69 rfl rfl (Own.nil ..) rfl rfl (by refine Even.map _ ?_ _; intro _; rfl) (by intro x hx; obtain ⟨_, _, rfl⟩ := List.mem_map.1 hx; rfl) rfl (by simp; omega) (by simp; omega) ?_)
                   intro av104 G104 h104
                   rw [List.nil_append] at h104
                   refine m_one 9 (by kernel_rfl) rfl rfl ?_
                   refine sm_lit ty70 ty69 rfl rfl rfl rfl rfl rfl rfl ?_
                   refine m_one 10 (by kernel_rfl) rfl rfl ?_
                   refine sm_any rfl (s_append (l := ((f x.peer).waits.map encW)) (m := ([(⟨x.now, (f x.peer).last + 1⟩ : BRow)].map encW)) ty70 ty69 rfl rfl h104 rfl rfl (by refine Even.map _ ?_ _; intro _; rfl) (by intro x hx; obtain ⟨_, _, rfl⟩ := List.mem_map.1 hx; rfl) rfl (by simp; omega) (by simp; omega) ?_)
                   intro av111 G111 h111
                   rw [← List.map_append] at h111
                   refine g_freeze 111 rfl h111 ?_
                   refine m_takel 11 rfl rfl (by kernel_rfl) (by kernel_rfl) (by kernel_rfl) (fun _ _ _ _ h => h) (vl_fieldAddr ty72 fo72_2 ty70 rfl) rfl rfl ?_
                   refine m_one 12 (by kernel_rfl) rfl rfl ?_
                   refine sm_any rfl (s_store (new := (encOP ⟨(f x.peer).last + 1, (nextBase (f x.peer) x.now), ((f x.peer).waits ++ [(⟨x.now, (f x.peer).last + 1⟩ : BRow)])⟩)) ty70 rfl rfl rfl rfl rfl rfl rfl ?_)
                   refine m_done (by kernel_rfl) ?_
                   first | refine g_keep [0, 1, 5, 6, 7, 10, 11, 12] [8, 9] [8, 9] (keep_cons rfl (keep_cons rfl (keep_cons rfl (keep_cons rfl (keep_cons rfl (keep_cons rfl (keep_cons rfl (keep_cons rfl keep_nil)))))))) (lkeep_cons rfl (lkeep_cons rfl lkeep_nil)) (keep_cons rfl (keep_cons rfl keep_nil)) rfl ?_ | refine g_keep [0, 1, 5, 6, 7, 10, 11, 12] [8, 9] [8, 9] rfl rfl rfl rfl ?_
                   first | exact g_has ⟨h1, rfl, rfl, rfl, ⟨hO1, hs1, hab1, hs_H1, hhr1, hrm1, hsn⟩⟩
                  ·
                   refine ⟨_, rfl, .inl ⟨rfl, ?_⟩⟩
                   refine sm_lit ty70 ty69 rfl rfl rfl rfl rfl rfl rfl ?_
                   refine m_one 3 (by kernel_rfl) rfl rfl ?_
                   refine sm_any rfl (s_append (l := []) (m := ((f x.peer).waits.map encW)) ty70 ty69 rfl rfl (Own.nil ..) rfl rfl (by refine Even.map _ ?_ _; intro _; rfl) (by intro x hx; obtain ⟨_, _, rfl⟩ := List.mem_map.1 hx; rfl) rfl (by simp; omega) (by simp; omega) ?_)
                   intro av104 G104 h104
                   rw [List.nil_append] at h104
                   refine m_one 10 (by kernel_rfl) rfl rfl ?_
                   refine sm_any rfl (s_append (l := ((f x.peer).waits.map encW)) (m := ([(⟨x.now, (f x.peer).last + 1⟩ : BRow)].map encW)) ty70 ty69 rfl rfl h104 rfl rfl (by refine Even.map _ ?_ _; intro _; rfl) (by intro x hx; obtain ⟨_, _, rfl⟩ := List.mem_map.1 hx; rfl) rfl (by simp; omega) (by simp; omega) ?_)
                   intro av111 G111 h111
                   rw [← List.map_append] at h111
                   refine g_freeze 111 rfl h111 ?_
                   refine m_takel 11 rfl rfl (by kernel_rfl) (by kernel_rfl) (by kernel_rfl) (fun _ _ _ _ h => h) (vl_fieldAddr ty72 fo72_2 ty70 rfl) rfl rfl ?_
                   refine m_one 12 (by kernel_rfl) rfl rfl ?_
                   refine sm_any rfl (s_store (new := (encOP ⟨(f x.peer).last + 1, (nextBase (f x.peer) x.now), ((f x.peer).waits ++ [(⟨x.now, (f x.peer).last + 1⟩ : BRow)])⟩)) ty70 rfl rfl rfl rfl rfl rfl rfl ?_)
                   refine m_done (by kernel_rfl) ?_
                   first | refine g_keep [0, 1, 5, 6, 7, 10, 11, 12] [8, 9] [8, 9] (keep_cons rfl (keep_cons rfl (keep_cons rfl (keep_cons rfl (keep_cons rfl (keep_cons rfl (keep_cons rfl (keep_cons rfl keep_nil)))))))) (lkeep_cons rfl (lkeep_cons rfl lkeep_nil)) (keep_cons rfl (keep_cons rfl keep_nil)) rfl ?_ | refine g_keep [0, 1, 5, 6, 7, 10, 11, 12] [8, 9] [8, 9] rfl rfl rfl rfl ?_
                   first | exact g_has ⟨h1, rfl, rfl, rfl, ⟨hO1, hs1, hab1, hs_H1, hhr1, hrm1, hsn⟩⟩
                ·
                 refine ⟨_, rfl, .inl ⟨rfl, ?_⟩⟩
                 refine sm_val (v_loadl ty64 rfl rfl rfl rfl) rfl rfl ?_
                 refine m_take 8 false rfl rfl (by kernel_rfl) (by kernel_rfl) (by kernel_rfl) (fun _ _ _ _ h => h) (v_build (vs := [(0, _), (1, _)]) (zs := [(.int .i64 0), .nil0]) (cells := [_, _]) ty69 pl69 rfl rfl rfl) rfl rfl ?_
                 refine m_all (is := [2, 9]) (by kernel_rfl) rfl (fun _ _ _ => trivial) (fun i hi => ?_)
                 rcases (by simpa using hi : i = 2 ∨ i = 9) with rfl | rfl
                 ·
                  refine ⟨_, rfl, .inl ⟨rfl, ?_⟩⟩
                  refine sm_val (v_loadl ty70 rfl rfl rfl rfl) rfl rfl ?_
                  refine m_all (is := [3, 9]) (by kernel_rfl) rfl (fun _ _ _ => trivial) (fun i hi => ?_)
                  rcases (by simpa using hi : i = 3 ∨ i = 9) with rfl | rfl
                  ·
                   refine ⟨_, rfl, .inl ⟨rfl, ?_⟩⟩
                   refine sm_any rfl (s_append (l := []) (m := ((f x.peer).waits.map encW)) ty70 ty69 rfl rfl (Own.nil ..) rfl rfl (by refine Even.map _ ?_ _; intro _; rfl) (by intro x hx; obtain ⟨_, _, rfl⟩ := List.mem_map.1 hx; rfl) rfl (by simp; omega) (by simp; omega) ?_)
                   intro av104 G104 h104
                   rw [List.nil_append] at h104
                   refine m_one 9 (by kernel_rfl) rfl rfl ?_
                   refine sm_lit ty70 ty69 rfl rfl rfl rfl rfl rfl rfl ?_
                   refine m_one 10 (by kernel_rfl) rfl rfl ?_
                   refine sm_any rfl (s_append (l := ((f x.peer).waits.map encW)) (m := ([(⟨x.now, (f x.peer).last + 1⟩ : BRow)].map encW)) ty70 ty69 rfl rfl h104 rfl rfl (by refine Even.map _ ?_ _; intro _; rfl) (by intro x hx; obtain ⟨_, _, rfl⟩ := List.mem_map.1 hx; rfl) rfl (by simp; omega) (by simp; omega) ?_)
                   intro av111 G111 h111
                   rw [← List.map_append] at h111
                   refine g_freeze 111 rfl h111 ?_
                   refine m_takel 11 rfl rfl (by kernel_rfl) (by kernel_rfl) (by kernel_rfl) (fun _ _ _ _ h => h) (vl_fieldAddr ty72 fo72_2 ty70 rfl) rfl rfl ?_
                   refine m_one 12 (by kernel_rfl) rfl rfl ?_
                   refine sm_any rfl (s_store (new := (encOP ⟨(f x.peer).last + 1, (nextBase (f x.peer) x.now), ((f x.peer).waits ++ [(⟨x.now, (f x.peer).last + 1⟩ : BRow)])⟩)) ty70 rfl rfl rfl rfl rfl rfl rfl ?_)
                   refine m_done (by kernel_rfl) ?_
                   first | refine g_keep [0, 1, 5, 6, 7, 10, 11, 12] [8, 9] [8, 9] (keep_cons rfl (keep_cons rfl (keep_cons rfl (keep_cons rfl (keep_cons rfl (keep_cons rfl (keep_cons rfl (keep_cons rfl keep_nil)))))))) (lkeep_cons rfl (lkeep_cons rfl lkeep_nil)) (keep_cons rfl (keep_cons rfl keep_nil)) rfl ?_ | refine g_keep [0, 1, 5, 6, 7, 10, 11, 12] [8, 9] [8, 9] rfl rfl rfl rfl ?_
                   first | exact g_has ⟨h1, rfl, rfl, rfl, ⟨hO1, hs1, hab1, hs_H1, hhr1, hrm1, hsn⟩⟩
                  ·
                   refine ⟨_, rfl, .inl ⟨rfl, ?_⟩⟩
                   refine sm_lit ty70 ty69 rfl rfl rfl rfl rfl rfl rfl ?_
                   refine m_one 3 (by kernel_rfl) rfl rfl ?_
                   refine sm_any rfl (s_append (l := []) (m := ((f x.peer).waits.map encW)) ty70 ty69 rfl rfl (Own.nil ..) rfl rfl (by refine Even.map _ ?_ _; intro _; rfl) (by intro x hx; obtain ⟨_, _, rfl⟩ := List.mem_map.1 hx; rfl) rfl (by simp; omega) (by simp; omega) ?_)
                   intro av104 G104 h104
                   rw [List.nil_append] at h104
                   refine m_one 10 (by kernel_rfl) rfl rfl ?_
                   refine sm_any rfl (s_append (l := ((f x.peer).waits.map encW)) (m := ([(⟨x.now, (f x.peer).last + 1⟩ : BRow)].map encW)) ty70 ty69 rfl rfl h104 rfl rfl (by refine Even.map _ ?_ _; intro _; rfl) (by intro x hx; obtain ⟨_, _, rfl⟩ := List.mem_map.1 hx; rfl) rfl (by simp; omega) (by simp; omega) ?_)
                   intro av111 G111 h111
                   rw [← List.map_append] at h111
                   refine g_freeze 111 rfl h111 ?_
                   refine m_takel 11 rfl rfl (by kernel_rfl) (by kernel_rfl) (by kernel_rfl) (fun _ _ _ _ h => h) (vl_fieldAddr ty72 fo72_2 ty70 rfl) rfl rfl ?_
                   refine m_one 12 (by kernel_rfl) rfl rfl ?_
                   refine sm_any rfl (s_store (new := (encOP ⟨(f x.peer).last + 1, (nextBase (f x.peer) x.now), ((f x.peer).waits ++ [(⟨x.now, (f x.peer).last + 1⟩ : BRow)])⟩)) ty70 rfl rfl rfl rfl rfl rfl rfl ?_)
                   refine m_done (by kernel_rfl) ?_
                   first | refine g_keep [0, 1, 5, 6, 7, 10, 11, 12] [8, 9] [8, 9] (keep_cons rfl (keep_cons rfl (keep_cons rfl (keep_cons rfl (keep_cons rfl (keep_cons rfl (keep_cons rfl (keep_cons rfl keep_nil)))))))) (lkeep_cons rfl (lkeep_cons rfl lkeep_nil)) (keep_cons rfl (keep_cons rfl keep_nil)) rfl ?_ | refine g_keep [0, 1, 5, 6, 7, 10, 11, 12] [8, 9] [8, 9] rfl rfl rfl rfl ?_
                   first | exact g_has ⟨h1, rfl, rfl, rfl, ⟨hO1, hs1, hab1, hs_H1, hhr1, hrm1, hsn⟩⟩
                 ·
                  refine ⟨_, rfl, .inl ⟨rfl, ?_⟩⟩
                  refine sm_lit ty70 ty69 rfl rfl rfl rfl rfl rfl rfl ?_
                  refine m_one 2 (by kernel_rfl) rfl rfl ?_
                  refine sm_val (v_loadl ty70 rfl rfl rfl rfl) rfl rfl ?_
                  refine m_one 3 (by kernel_rfl) rfl rfl ?_
                  refine sm_any rfl (s_append (l := []) (m := ((f x.peer).waits.map encW)) ty70 ty69 rfl rfl (Own.nil ..) rfl rfl (by refine Even.map _ ?_ _; intro _; rfl) (by intro x hx; obtain ⟨_, _, rfl⟩ := List.mem_map.1 hx; rfl) rfl (by simp; omega) (by simp; omega) ?_)
                  intro av104 G104 h104
                  rw [List.nil_append] at h104
                  refine m_one 10 (by kernel_rfl) rfl rfl ?_
                  refine sm_any rfl (s_append (l := ((f x.peer).waits.map encW)) (m := ([(⟨x.now, (f x.peer).last + 1⟩ : BRow)].map encW)) ty70 ty69 rfl rfl h104 rfl rfl (by refine Even.map _ ?_ _; intro _; rfl) (by intro x hx; obtain ⟨_, _, rfl⟩ := List.mem_map.1 hx; rfl) rfl (by simp; omega) (by simp; omega) ?_)
                  intro av111 G111 h111
                  rw [← List.map_append] at h111
                  refine g_freeze 111 rfl h111 ?_
                  refine m_takel 11 rfl rfl (by kernel_rfl) (by kernel_rfl) (by kernel_rfl) (fun _ _ _ _ h => h) (vl_fieldAddr ty72 fo72_2 ty70 rfl) rfl rfl ?_
                  refine m_one 12 (by kernel_rfl) rfl rfl ?_
                  refine sm_any rfl (s_store (new := (encOP ⟨(f x.peer).last + 1, (nextBase (f x.peer) x.now), ((f x.peer).waits ++ [(⟨x.now, (f x.peer).last + 1⟩ : BRow)])⟩)) ty70 rfl rfl rfl rfl rfl rfl rfl ?_)
                  refine m_done (by kernel_rfl) ?_
                  first | refine g_keep [0, 1, 5, 6, 7, 10, 11, 12] [8, 9] [8, 9] (keep_cons rfl (keep_cons rfl (keep_cons rfl (keep_cons rfl (keep_cons rfl (keep_cons rfl (keep_cons rfl (keep_cons rfl keep_nil)))))))) (lkeep_cons rfl (lkeep_cons rfl lkeep_nil)) (keep_cons rfl (keep_cons rfl keep_nil)) rfl ?_ | refine g_keep [0, 1, 5, 6, 7, 10, 11, 12] [8, 9] [8, 9] rfl rfl rfl rfl ?_
                  first | exact g_has ⟨h1, rfl, rfl, rfl, ⟨hO1, hs1, hab1, hs_H1, hhr1, hrm1, hsn⟩⟩
               ·
                refine ⟨_, rfl, .inl ⟨rfl, ?_⟩⟩
                refine sm_val (v_loadl ty70 rfl rfl rfl rfl) rfl rfl ?_
                refine m_all (is := [0, 7]) (by kernel_rfl) rfl (fun _ _ _ => trivial) (fun i hi => ?_)
                rcases (by simpa using hi : i = 0 ∨ i = 7) with rfl | rfl
                ·
                 refine ⟨_, rfl, .inl ⟨rfl, ?_⟩⟩
                 refine sm_lit0 ty70 ty69 rfl ?_
                 refine m_all (is := [3, 7]) (by kernel_rfl) rfl (fun _ _ _ => trivial) (fun i hi => ?_)
                 rcases (by simpa using hi : i = 3 ∨ i = 7) with rfl | rfl
                 ·
                  refine ⟨_, rfl, .inl ⟨rfl, ?_⟩⟩
                  refine sm_any rfl (s_append (l := []) (m := ((f x.peer).waits.map encW)) ty70 ty69 rfl rfl (Own.nil ..) rfl rfl (by refine Even.map _ ?_ _; intro _; rfl) (by intro x hx; obtain ⟨_, _, rfl⟩ := List.mem_map.1 hx; rfl) rfl (by simp; omega) (by simp; omega) ?_)
                  intro av104 G104 h104
                  rw [List.nil_append] at h104
                  refine m_one 7 (by kernel_rfl) rfl rfl ?_
                  refine sm_val (v_loadl ty64 rfl rfl rfl rfl) rfl rfl ?_
                  refine m_take 8 false rfl rfl (by kernel_rfl) (by kernel_rfl) (by kernel_rfl) (fun _ _ _ _ h => h) (v_build (vs := [(0, _), (1, _)]) (zs := [(.int .i64 0), .nil0]) (cells := [_, _]) ty69 pl69 rfl rfl rfl) rfl rfl ?_
                  refine m_one 9 (by kernel_rfl) rfl rfl ?_
                  refine sm_lit ty70 ty69 rfl rfl rfl rfl rfl rfl rfl ?_
                  refine m_one 10 (by kernel_rfl) rfl rfl ?_
                  refine sm_any rfl (s_append (l := ((f x.peer).waits.map encW)) (m := ([(⟨x.now, (f x.peer).last + 1⟩ : BRow)].map encW)) ty70 ty69 rfl rfl h104 rfl rfl (by refine Even.map _ ?_ _; intro _; rfl) (by intro x hx; obtain ⟨_, _, rfl⟩ := List.mem_map.1 hx; rfl) rfl (by simp; omega) (by simp; omega) ?_)
                  intro av111 G111 h111
                  rw [← List.map_append] at h111
                  refine g_freeze 111 rfl h111 ?_
                  refine m_takel 11 rfl rfl (by kernel_rfl) (by kernel_rfl) (by kernel_rfl) (fun _ _ _ _ h => h) (vl_fieldAddr ty72 fo72_2 ty70 rfl) rfl rfl ?_
                  refine m_one 12 (by kernel_rfl) rfl rfl ?_
                  refine sm_any rfl (s_store (new := (encOP ⟨(f x.peer).last + 1, (nextBase (f x.peer) x.now), ((f x.peer).waits ++ [(⟨x.now, (f x.peer).last + 1⟩ : BRow)])⟩)) ty70 rfl rfl rfl rfl rfl rfl rfl ?_)
                  refine m_done (by kernel_rfl) ?_
                  first | refine g_keep [0, 1, 5, 6, 7, 10, 11, 12] [8, 9] [8, 9] (keep_cons rfl (keep_cons rfl (keep_cons rfl (keep_cons rfl (keep_cons rfl (keep_cons rfl (keep_cons rfl (keep_cons rfl keep_nil)))))))) (lkeep_cons rfl (lkeep_cons rfl lkeep_nil)) (keep_cons rfl (keep_cons rfl keep_nil)) rfl ?_ | refine g_keep [0, 1, 5, 6, 7, 10, 11, 12] [8, 9] [8, 9] rfl rfl rfl rfl ?_
                  first | exact g_has ⟨h1, rfl, rfl, rfl, ⟨hO1, hs1, hab1, hs_H1, hhr1, hrm1, hsn⟩⟩
                 ·
                  refine ⟨_, rfl, .inl ⟨rfl, ?_⟩⟩
                  refine sm_val (v_loadl ty64 rfl rfl rfl rfl) rfl rfl ?_
                  refine m_take 8 false rfl rfl (by kernel_rfl) (by kernel_rfl) (by kernel_rfl) (fun _ _ _ _ h => h) (v_build (vs := [(0, _), (1, _)]) (zs := [(.int .i64 0), .nil0]) (cells := [_, _]) ty69 pl69 rfl rfl rfl) rfl rfl ?_
                  refine m_all (is := [3, 9]) (by kernel_rfl) rfl (fun _ _ _ => trivial) (fun i hi => ?_)
                  rcases (by simpa using hi : i = 3 ∨ i = 9) with rfl | rfl
                  ·
                   refine ⟨_, rfl, .inl ⟨rfl, ?_⟩⟩
                   refine sm_any rfl (s_append (l := []) (m := ((f x.peer).waits.map encW)) ty70 ty69 rfl rfl (Own.nil ..) rfl rfl (by refine Even.map _ ?_ _; intro _; rfl) (by intro x hx; obtain ⟨_, _, rfl⟩ := List.mem_map.1 hx; rfl) rfl (by simp; omega) (by simp; omega) ?_)
                   intro av104 G104 h104
                   rw [List.nil_append] at h104
                   refine m_one 9 (by kernel_rfl) rfl rfl ?_
                   refine sm_lit ty70 ty69 rfl rfl rfl rfl rfl rfl rfl ?_
                   refine m_one 10 (by kernel_rfl) rfl rfl ?_
                   refine sm_any rfl (s_append (l := ((f x.peer).waits.map encW)) (m := ([(⟨x.now, (f x.peer).last + 1⟩ : BRow)].map encW)) ty70 ty69 rfl rfl h104 rfl rfl (by refine Even.map _ ?_ _; intro _; rfl) (by intro x hx; obtain ⟨_, _, rfl⟩ := List.mem_map.1 hx; rfl) rfl (by simp; omega) (by simp; omega) ?_)
                   intro av111 G111 h111
                   rw [← List.map_append] at h111
                   refine g_freeze 111 rfl h111 ?_
                   refine m_takel 11 rfl rfl (by kernel_rfl) (by kernel_rfl) (by kernel_rfl) (fun _ _ _ _ h => h) (vl_fieldAddr ty72 fo72_2 ty70 rfl) rfl rfl ?_
                   refine m_one 12 (by kernel_rfl) rfl rfl ?_
                   refine sm_any rfl (s_store (new := (encOP ⟨(f x.peer).last + 1, (nextBase (f x.peer) x.now), ((f x.peer).waits ++ [(⟨x.now, (f x.peer).last + 1⟩ : BRow)])⟩)) ty70 rfl rfl rfl rfl rfl rfl rfl ?_)
                   refine m_done (by kernel_rfl) ?_
                   first | refine g_keep [0, 1, 5, 6, 7, 10, 11, 12] [8, 9] [8, 9] (keep_cons rfl (keep_cons rfl (keep_cons rfl (keep_cons rfl (keep_cons rfl (keep_cons rfl (keep_cons rfl (keep_cons rfl keep_nil)))))))) (lkeep_cons rfl (lkeep_cons rfl lkeep_nil)) (keep_cons rfl (keep_cons rfl keep_nil)) rfl ?_ | refine g_keep [0, 1, 5, 6, 7, 10, 11, 12] [8, 9] [8, 9] rfl rfl rfl rfl ?_
                   first | exact g_has ⟨h1, rfl, rfl, rfl, ⟨hO1, hs1, hab1, hs_H1, hhr1, hrm1, hsn⟩⟩
                  ·
                   refine ⟨_, rfl, .inl ⟨rfl, ?_⟩⟩
                   refine sm_lit ty70 ty69 rfl rfl rfl rfl rfl rfl rfl ?_
                   refine m_one 3 (by kernel_rfl) rfl rfl ?_
                   refine sm_any rfl (s_append (l := []) (m := ((f x.peer).waits.map encW)) ty70 ty69 rfl rfl (Own.nil ..) rfl rfl (by refine Even.map _ ?_ _; intro _; rfl) (by intro x hx; obtain ⟨_, _, rfl⟩ := List.mem_map.1 hx; rfl) rfl (by simp; omega) (by simp; omega) ?_)
                   intro av104 G104 h104
                   rw [List.nil_append] at h104
                   refine m_one 10 (by kernel_rfl) rfl rfl ?_
                   refine sm_any rfl (s_append (l := ((f x.peer).waits.map encW)) (m := ([(⟨x.now, (f x.peer).last + 1⟩ : BRow)].map encW)) ty70 ty69 rfl rfl h104 rfl rfl (by refine Even.map _ ?_ _; intro _; rfl) (by intro x hx; obtain ⟨_, _, rfl⟩ := List.mem_map.1 hx; rfl) rfl (by simp; omega) (by simp; omega) ?_)
                   intro av111 G111 h111
                   rw [← List.map_append] at h111
                   refine g_freeze 111 rfl h111 ?_
                   refine m_takel 11 rfl rfl (by kernel_rfl) (by kernel_rfl) (by kernel_rfl) (fun _ _ _ _ h => h) (vl_fieldAddr ty72 fo72_2 ty70 rfl) rfl rfl ?_
                   refine m_one 12 (by kernel_rfl) rfl rfl ?_
                   refine sm_any rfl (s_store (new := (encOP ⟨(f x.peer).last + 1, (nextBase (f x.peer) x.now), ((f x.peer).waits ++ [(⟨x.now, (f x.peer).last + 1⟩ : BRow)])⟩)) ty70 rfl rfl rfl rfl rfl rfl rfl ?_)
                   refine m_done (by kernel_rfl) ?_
                   first | refine g_keep [0, 1, 5, 6, 7, 10, 11, 12] [8, 9] [8, 9] (keep_cons rfl (keep_cons rfl (keep_cons rfl (keep_cons rfl (keep_cons rfl (keep_cons rfl (keep_cons rfl (keep_cons rfl keep_nil)))))))) (lkeep_cons rfl (lkeep_cons rfl lkeep_nil)) (keep_cons rfl (keep_cons rfl keep_nil)) rfl ?_ | refine g_keep [0, 1, 5, 6, 7, 10, 11, 12] [8, 9] [8, 9] rfl rfl rfl rfl ?_
                   first | exact g_has ⟨h1, rfl, rfl, rfl, ⟨hO1, hs1, hab1, hs_H1, hhr1, hrm1, hsn⟩⟩
                ·
                 refine ⟨_, rfl, .inl ⟨rfl, ?_⟩⟩
                 refine sm_val (v_loadl ty64 rfl rfl rfl rfl) rfl rfl ?_
                 refine m_take 8 false rfl rfl (by kernel_rfl) (by kernel_rfl) (by kernel_rfl) (fun _ _ _ _ h => h) (v_build (vs := [(0, _), (1, _)]) (zs := [(.int .i64 0), .nil0]) (cells := [_, _]) ty69 pl69 rfl rfl rfl) rfl rfl ?_
                 refine m_all (is := [0, 9]) (by kernel_rfl) rfl (fun _ _ _ => trivial) (fun i hi => ?_)
                 rcases (by simpa using hi : i = 0 ∨ i = 9) with rfl | rfl
                 ·
                  refine ⟨_, rfl, .inl ⟨rfl, ?_⟩⟩
                  refine sm_lit0 ty70 ty69 rfl ?_
                  refine m_all (is := [3, 9]) (by kernel_rfl) rfl (fun _ _ _ => trivial) (fun i hi => ?_)
                  rcases (by simpa using hi : i = 3 ∨ i = 9) with rfl | rfl
                  ·
                   refine ⟨_, rfl, .inl ⟨rfl, ?_⟩⟩
                   refine sm_any rfl (s_append (l := []) (m := ((f x.peer).waits.map encW)) ty70 ty69 rfl rfl (Own.nil ..) rfl rfl (by refine Even.map _ ?_ _; intro _; rfl) (by intro x hx; obtain ⟨_, _, rfl⟩ := List.mem_map.1 hx; rfl) rfl (by simp; omega) (by simp; omega) ?_)
                   intro av104 G104 h104
                   rw [List.nil_append] at h104
                   refine m_one 9 (by kernel_rfl) rfl rfl ?_
                   refine sm_lit ty70 ty69 rfl rfl rfl rfl rfl rfl rfl ?_
                   refine m_one 10 (by kernel_rfl) rfl rfl ?_
                   refine sm_any rfl (s_append (l := ((f x.peer).waits.map encW)) (m := ([(⟨x.now, (f x.peer).last + 1⟩ : BRow)].map encW)) ty70 ty69 rfl rfl h104 rfl rfl (by refine Even.map _ ?_ _; intro _; rfl) (by intro x hx; obtain ⟨_, _, rfl⟩ := List.mem_map.1 hx; rfl) rfl (by simp; omega) (by simp; omega) ?_)
                   intro av111 G111 h111
                   rw [← List.map_append] at h111
                   refine g_freeze 111 rfl h111 ?_
                   refine m_takel 11 rfl rfl (by kernel_rfl) (by kernel_rfl) (by kernel_rfl) (fun _ _ _ _ h => h) (vl_fieldAddr ty72 fo72_2 ty70 rfl) rfl rfl ?_
                   refine m_one 12 (by kernel_rfl) rfl rfl ?_
                   refine sm_any rfl (s_store (new := (encOP ⟨(f x.peer).last + 1, (nextBase (f x.peer) x.now), ((f x.peer).waits ++ [(⟨x.now, (f x.peer).last + 1⟩ : BRow)])⟩)) ty70 rfl rfl rfl rfl rfl rfl rfl ?_)
                   refine m_done (by kernel_rfl) ?_
                   first | refine g_keep [0, 1, 5, 6, 7, 10, 11, 12] [8, 9] [8, 9] (keep_cons rfl (keep_cons rfl (keep_cons rfl (keep_cons rfl (keep_cons rfl (keep_cons rfl (keep_cons rfl (keep_cons rfl keep_nil)))))))) (lkeep_cons rfl (lkeep_cons rfl lkeep_nil)) (keep_cons rfl (keep_cons rfl keep_nil)) rfl ?_ | refine g_keep [0, 1, 5, 6, 7, 10, 11, 12] [8, 9] [8, 9] rfl rfl rfl rfl ?_
                   first | exact g_has ⟨h1, rfl, rfl, rfl, ⟨hO1, hs1, hab1, hs_H1, hhr1, hrm1, hsn⟩⟩
                  ·
                   refine ⟨_, rfl, .inl ⟨rfl, ?_⟩⟩
                   refine sm_lit ty70 ty69 rfl rfl rfl rfl rfl rfl rfl ?_
                   refine m_one 3 (by kernel_rfl) rfl rfl ?_
                   refine sm_any rfl (s_append (l := []) (m := ((f x.peer).waits.map encW)) ty70 ty69 rfl rfl (Own.nil ..) rfl rfl (by refine Even.map _ ?_ _; intro _; rfl) (by intro x hx; obtain ⟨_, _, rfl⟩ := List.mem_map.1 hx; rfl) rfl (by simp; omega) (by simp; omega) ?_)
                   intro av104 G104 h104
                   rw [List.nil_append] at h104
                   refine m_one 10 (by kernel_rfl) rfl rfl ?_
                   refine sm_any rfl (s_append (l := ((f x.peer).waits.map encW)) (m := ([(⟨x.now, (f x.peer).last + 1⟩ : BRow)].map encW)) ty70 ty69 rfl rfl h104 rfl rfl (by refine Even.map _ ?_ _; intro _; rfl) (by intro x hx; obtain ⟨_, _, rfl⟩ := List.mem_map.1 hx; rfl) rfl (by simp; omega) (by simp; omega) ?_)
                   intro av111 G111 h111
                   rw [← List.map_append] at h111
                   refine g_freeze 111 rfl h111 ?_
                   refine m_takel 11 rfl rfl (by kernel_rfl) (by kernel_rfl) (by kernel_rfl) (fun _ _ _ _ h => h) (vl_fieldAddr ty72 fo72_2 ty70 rfl) rfl rfl ?_
                   refine m_one 12 (by kernel_rfl) rfl rfl ?_
                   refine sm_any rfl (s_store (new := (encOP ⟨(f x.peer).last + 1, (nextBase (f x.peer) x.now), ((f x.peer).waits ++ [(⟨x.now, (f x.peer).last + 1⟩ : BRow)])⟩)) ty70 rfl rfl rfl rfl rfl rfl rfl ?_)
                   refine m_done (by kernel_rfl) ?_
                   first | refine g_keep [0, 1, 5, 6, 7, 10, 11, 12] [8, 9] [8, 9] (keep_cons rfl (keep_cons rfl (keep_cons rfl (keep_cons rfl (keep_cons rfl (keep_cons rfl (keep_cons rfl (keep_cons rfl keep_nil)))))))) (lkeep_cons rfl (lkeep_cons rfl lkeep_nil)) (keep_cons rfl (keep_cons rfl keep_nil)) rfl ?_ | refine g_keep [0, 1, 5, 6, 7, 10, 11, 12] [8, 9] [8, 9] rfl rfl rfl rfl ?_
                   first | exact g_has ⟨h1, rfl, rfl, rfl, ⟨hO1, hs1, hab1, hs_H1, hhr1, hrm1, hsn⟩⟩
                 ·
                  refine ⟨_, rfl, .inl ⟨rfl, ?_⟩⟩
                  refine sm_lit ty70 ty69 rfl rfl rfl rfl rfl rfl rfl ?_
                  refine m_one 0 (by kernel_rfl) rfl rfl ?_
                  refine sm_lit0 ty70 ty69 rfl ?_
                  refine m_one 3 (by kernel_rfl) rfl rfl ?_
                  refine sm_any rfl (s_append (l := []) (m := ((f x.peer).waits.map encW)) ty70 ty69 rfl rfl (Own.nil ..) rfl rfl (by refine Even.map _ ?_ _; intro _; rfl) (by intro x hx; obtain ⟨_, _, rfl⟩ := List.mem_map.1 hx; rfl) rfl (by simp; omega) (by simp; omega) ?_)
                  intro av104 G104 h104
                  rw [List.nil_append] at h104
                  refine m_one 10 (by kernel_rfl) rfl rfl ?_
                  refine sm_any rfl (s_append (l := ((f x.peer).waits.map encW)) (m := ([(⟨x.now, (f x.peer).last + 1⟩ : BRow)].map encW)) ty70 ty69 rfl rfl h104 rfl rfl (by refine Even.map _ ?_ _; intro _; rfl) (by intro x hx; obtain ⟨_, _, rfl⟩ := List.mem_map.1 hx; rfl) rfl (by simp; omega) (by simp; omega) ?_)
                  intro av111 G111 h111
                  rw [← List.map_append] at h111
                  refine g_freeze 111 rfl h111 ?_
                  refine m_takel 11 rfl rfl (by kernel_rfl) (by kernel_rfl) (by kernel_rfl) (fun _ _ _ _ h => h) (vl_fieldAddr ty72 fo72_2 ty70 rfl) rfl rfl ?_
                  refine m_one 12 (by kernel_rfl) rfl rfl ?_
                  refine sm_any rfl (s_store (new := (encOP ⟨(f x.peer).last + 1, (nextBase (f x.peer) x.now), ((f x.peer).waits ++ [(⟨x.now, (f x.peer).last + 1⟩ : BRow)])⟩)) ty70 rfl rfl rfl rfl rfl rfl rfl ?_)
                  refine m_done (by kernel_rfl) ?_
                  first | refine g_keep [0, 1, 5, 6, 7, 10, 11, 12] [8, 9] [8, 9] (keep_cons rfl (keep_cons rfl (keep_cons rfl (keep_cons rfl (keep_cons rfl (keep_cons rfl (keep_cons rfl (keep_cons rfl keep_nil)))))))) (lkeep_cons rfl (lkeep_cons rfl lkeep_nil)) (keep_cons rfl (keep_cons rfl keep_nil)) rfl ?_ | refine g_keep [0, 1, 5, 6, 7, 10, 11, 12] [8, 9] [8, 9] rfl rfl rfl rfl ?_
                  first | exact g_has ⟨h1, rfl, rfl, rfl, ⟨hO1, hs1, hab1, hs_H1, hhr1, hrm1, hsn⟩⟩
               ·
                refine ⟨_, rfl, .inl ⟨rfl, ?_⟩⟩
                refine sm_val (v_loadl ty64 rfl rfl rfl rfl) rfl rfl ?_
                refine m_take 8 false rfl rfl (by kernel_rfl) (by kernel_rfl) (by kernel_rfl) (fun _ _ _ _ h => h) (v_build (vs := [(0, _), (1, _)]) (zs := [(.int .i64 0), .nil0]) (cells := [_, _]) ty69 pl69 rfl rfl rfl) rfl rfl ?_
                refine m_all (is := [0, 2, 9]) (by kernel_rfl) rfl (fun _ _ _ => trivial) (fun i hi => ?_)
                rcases (by simpa using hi : i = 0 ∨ i = 2 ∨ i = 9) with rfl | rfl | rfl
                ·
                 refine ⟨_, rfl, .inl ⟨rfl, ?_⟩⟩
                 refine sm_lit0 ty70 ty69 rfl ?_
                 refine m_all (is := [2, 9]) (by kernel_rfl) rfl (fun _ _ _ => trivial) (fun i hi => ?_)
                 rcases (by simpa using hi : i = 2 ∨ i = 9) with rfl | rfl
                 ·
                  refine ⟨_, rfl, .inl ⟨rfl, ?_⟩⟩
                  refine sm_val (v_loadl ty70 rfl rfl rfl rfl) rfl rfl ?_
                  refine m_all (is := [3, 9]) (by kernel_rfl) rfl (fun _ _ _ => trivial) (fun i hi => ?_)
                  rcases (by simpa using hi : i = 3 ∨ i = 9) with rfl | rfl
                  ·
                   refine ⟨_, rfl, .inl ⟨rfl, ?_⟩⟩
                   refine sm_any rfl (s_append (l := []) (m := ((f x.peer).waits.map encW)) ty70 ty69 rfl rfl (Own.nil ..) rfl rfl (by refine Even.map _ ?_ _; intro _; rfl) (by intro x hx; obtain ⟨_, _, rfl⟩ := List.mem_map.1 hx; rfl) rfl (by simp; omega) (by simp; omega) ?_)
                   intro av104 G104 h104
                   rw [List.nil_append] at h104
                   refine m_one 9 (by kernel_rfl) rfl rfl ?_
                   refine sm_lit ty70 ty69 rfl rfl rfl rfl rfl rfl rfl ?_
                   refine m_one 10 (by kernel_rfl) rfl rfl ?_
                   refine sm_any rfl (s_append (l := ((f x.peer).waits.map encW)) (m := ([(⟨x.now, (f x.peer).last + 1⟩ : BRow)].map encW)) ty70 ty69 rfl rfl h104 rfl rfl (by refine Even.map _ ?_ _; intro _; rfl) (by intro x hx; obtain ⟨_, _, rfl⟩ := List.mem_map.1 hx; rfl) rfl (by simp; omega) (by simp; omega) ?_)
                   intro av111 G111 h111
                   rw [← List.map_append] at h111
                   refine g_freeze 111 rfl h111 ?_
                   refine m_takel 11 rfl rfl (by kernel_rfl) (by kernel_rfl) (by kernel_rfl) (fun _ _ _ _ h => h) (vl_fieldAddr ty72 fo72_2 ty70 rfl) rfl rfl ?_
                   refine m_one 12 (by kernel_rfl) rfl rfl ?_
                   refine sm_any rfl (s_store (new := (encOP ⟨(f x.peer).last + 1, (nextBase (f x.peer) x.now), ((f x.peer).waits ++ [(⟨x.now, (f x.peer).last + 1⟩ : BRow)])⟩)) ty70 rfl rfl rfl rfl rfl rfl rfl ?_)
                   refine m_done (by kernel_rfl) ?_
                   first | refine g_keep [0, 1, 5, 6, 7, 10, 11, 12] [8, 9] [8, 9] (keep_cons rfl (keep_cons rfl (keep_cons rfl (keep_cons rfl (keep_cons rfl (keep_cons rfl (keep_cons rfl (keep_cons rfl keep_nil)))))))) (lkeep_cons rfl (lkeep_cons rfl lkeep_nil)) (keep_cons rfl (keep_cons rfl keep_nil)) rfl ?_ | refine g_keep [0, 1, 5, 6, 7, 10, 11, 12] [8, 9] [8, 9] rfl rfl rfl rfl ?_
                   first | exact g_has ⟨h1, rfl, rfl, rfl, ⟨hO1, hs1, hab1, hs_H1, hhr1, hrm1, hsn⟩⟩
                  ·
                   refine ⟨_, rfl, .inl ⟨rfl, ?_⟩⟩
                   refine sm_lit ty70 ty69 rfl rfl rfl rfl rfl rfl rfl ?_
                   refine m_one 3 (by kernel_rfl) rfl rfl ?_
                   refine sm_any rfl (s_append (l := []) (m := ((f x.peer).waits.map encW)) ty70 ty69 rfl rfl (Own.nil ..) rfl rfl (by refine Even.map _ ?_ _; intro _; rfl) (by intro x hx; obtain ⟨_, _, rfl⟩ := List.mem_map.1 hx; rfl) rfl (by simp; omega) (by simp; omega) ?_)
                   intro av104 G104 h104
                   rw [List.nil_append] at h104
                   refine m_one 10 (by kernel_rfl) rfl rfl ?_
                   refine sm_any rfl (s_append (l := ((f x.peer).waits.map encW)) (m := ([(⟨x.now, (f x.peer).last + 1⟩ : BRow)].map encW)) ty70 ty69 rfl rfl h104 rfl rfl (by refine Even.map _ ?_ _; intro _; rfl) (by intro x hx; obtain ⟨_, _, rfl⟩ := List.mem_map.1 hx; rfl) rfl (by simp; omega) (by simp; omega) ?_)
                   intro av111 G111 h111
                   rw [← List.map_append] at h111
                   refine g_freeze 111 rfl h111 ?_
                   refine m_takel 11 rfl rfl (by kernel_rfl) (by kernel_rfl) (by kernel_rfl) (fun _ _ _ _ h => h) (vl_fieldAddr ty72 fo72_2 ty70 rfl) rfl rfl ?_
                   refine m_one 12 (by kernel_rfl) rfl rfl ?_
                   refine sm_any rfl (s_store (new := (encOP ⟨(f x.peer).last + 1, (nextBase (f x.peer) x.now), ((f x.peer).waits ++ [(⟨x.now, (f x.peer).last + 1⟩ : BRow)])⟩)) ty70 rfl rfl rfl rfl rfl rfl rfl ?_)
                   refine m_done (by kernel_rfl) ?_
                   first | refine g_keep [0, 1, 5, 6, 7, 10, 11, 12] [8, 9] [8, 9] (keep_cons rfl (keep_cons rfl (keep_cons rfl (keep_cons rfl (keep_cons rfl (keep_cons rfl (keep_cons rfl (keep_cons rfl keep_nil)))))))) (lkeep_cons rfl (lkeep_cons rfl lkeep_nil)) (keep_cons rfl (keep_cons rfl keep_nil)) rfl ?_ | refine g_keep [0, 1, 5, 6, 7, 10, 11, 12] [8, 9] [8, 9] rfl rfl rfl rfl ?_
                   first | exact g_has ⟨h1, rfl, rfl, rfl, ⟨hO1, hs1, hab1, hs_H1, hhr1, hrm1, hsn⟩⟩
                 ·
                  refine ⟨_, rfl, .inl ⟨rfl, ?_⟩⟩
                  refine sm_lit ty70 ty69 rfl rfl rfl rfl rfl rfl rfl ?_
                  refine m_one 2 (by kernel_rfl) rfl rfl ?_
                  refine sm_val (v_loadl ty70 rfl rfl rfl rfl) rfl rfl ?_
                  refine m_one 3 (by kernel_rfl) rfl rfl ?_
                  refine sm_any rfl (s_append (l := []) (m := ((f x.peer).waits.map encW)) ty70 ty69 rfl rfl (Own.nil ..) rfl rfl (by refine Even.map _ ?_ _; intro _; rfl) (by intro x hx; obtain ⟨_, _, rfl⟩ := List.mem_map.1 hx; rfl) rfl (by simp; omega) (by simp; omega) ?_)
                  intro av104 G104 h104
                  rw [List.nil_append] at h104
                  refine m_one 10 (by kernel_rfl) rfl rfl ?_
                  refine sm_any rfl (s_append (l := ((f x.peer).waits.map encW)) (m := ([(⟨x.now, (f x.peer).last + 1⟩ : BRow)].map encW)) ty70 ty69 rfl rfl h104 rfl rfl (by refine Even.map _ ?_ _; intro _; rfl) (by intro x hx; obtain ⟨_, _, rfl⟩ := List.mem_map.1 hx; rfl) rfl (by simp; omega) (by simp; omega) ?_)
                  intro av111 G111 h111
                  rw [← List.map_append] at h111
                  refine g_freeze 111 rfl h111 ?_
                  refine m_takel 11 rfl rfl (by kernel_rfl) (by kernel_rfl) (by kernel_rfl) (fun _ _ _ _ h => h) (vl_fieldAddr ty72 fo72_2 ty70 rfl) rfl rfl ?_
                  refine m_one 12 (by kernel_rfl) rfl rfl ?_
                  refine sm_any rfl (s_store (new := (encOP ⟨(f x.peer).last + 1, (nextBase (f x.peer) x.now), ((f x.peer).waits ++ [(⟨x.now, (f x.peer).last + 1⟩ : BRow)])⟩)) ty70 rfl rfl rfl rfl rfl rfl rfl ?_)
                  refine m_done (by kernel_rfl) ?_
                  first | refine g_keep [0, 1, 5, 6, 7, 10, 11, 12] [8, 9] [8, 9] (keep_cons rfl (keep_cons rfl (keep_cons rfl (keep_cons rfl (keep_cons rfl (keep_cons rfl (keep_cons rfl (keep_cons rfl keep_nil)))))))) (lkeep_cons rfl (lkeep_cons rfl lkeep_nil)) (keep_cons rfl (keep_cons rfl keep_nil)) rfl ?_ | refine g_keep [0, 1, 5, 6, 7, 10, 11, 12] [8, 9] [8, 9] rfl rfl rfl rfl ?_
                  first | exact g_has ⟨h1, rfl, rfl, rfl, ⟨hO1, hs1, hab1, hs_H1, hhr1, hrm1, hsn⟩⟩
                ·
                 refine ⟨_, rfl, .inl ⟨rfl, ?_⟩⟩
                 refine sm_val (v_loadl ty70 rfl rfl rfl rfl) rfl rfl ?_
                 refine m_all (is := [0, 9]) (by kernel_rfl) rfl (fun _ _ _ => trivial) (fun i hi => ?_)
                 rcases (by simpa using hi : i = 0 ∨ i = 9) with rfl | rfl
                 ·
                  refine ⟨_, rfl, .inl ⟨rfl, ?_⟩⟩
                  refine sm_lit0 ty70 ty69 rfl ?_
                  refine m_all (is := [3, 9]) (by kernel_rfl) rfl (fun _ _ _ => trivial) (fun i hi => ?_)
                  rcases (by simpa using hi : i = 3 ∨ i = 9) with rfl | rfl
                  ·
                   refine ⟨_, rfl, .inl ⟨rfl, ?_⟩⟩
                   refine sm_any rfl (s_append (l := []) (m := ((f x.peer).waits.map encW)) ty70 ty69 rfl rfl (Own.nil ..) rfl rfl (by refine Even.map _ ?_ _; intro _; rfl) (by intro x hx; obtain ⟨_, _, rfl⟩ := List.mem_map.1 hx; rfl) rfl (by simp; omega) (by simp; omega) ?_)
                   intro av104 G104 h104
                   rw [List.nil_append] at h104
                   refine m_one 9 (by kernel_rfl) rfl rfl ?_
                   refine sm_lit ty70 ty69 rfl rfl rfl rfl rfl rfl rfl ?_
                   refine m_one 10 (by kernel_rfl) rfl rfl ?_
                   refine sm_any rfl (s_append (l := ((f x.peer).waits.map encW)) (m := ([(⟨x.now, (f x.peer).last + 1⟩ : BRow)].map encW)) ty70 ty69 rfl rfl h104 rfl rfl (by refine Even.map _ ?_ _; intro _; rfl) (by intro x hx; obtain ⟨_, _, rfl⟩ := List.mem_map.1 hx; rfl) rfl (by simp; omega) (by simp; omega) ?_)
                   intro av111 G111 h111
                   rw [← List.map_append] at h111
                   refine g_freeze 111 rfl h111 ?_
                   refine m_takel 11 rfl rfl (by kernel_rfl) (by kernel_rfl) (by kernel_rfl) (fun _ _ _ _ h => h) (vl_fieldAddr ty72 fo72_2 ty70 rfl) rfl rfl ?_
                   refine m_one 12 (by kernel_rfl) rfl rfl ?_
                   refine sm_any rfl (s_store (new := (encOP ⟨(f x.peer).last + 1, (nextBase (f x.peer) x.now), ((f x.peer).waits ++ [(⟨x.now, (f x.peer).last + 1⟩ : BRow)])⟩)) ty70 rfl rfl rfl rfl rfl rfl rfl ?_)
                   refine m_done (by kernel_rfl) ?_
                   first | refine g_keep [0, 1, 5, 6, 7, 10, 11, 12] [8, 9] [8, 9] (keep_cons rfl (keep_cons rfl (keep_cons rfl (keep_cons rfl (keep_cons rfl (keep_cons rfl (keep_cons rfl (keep_cons rfl keep_nil)))))))) (lkeep_cons rfl (lkeep_cons rfl lkeep_nil)) (keep_cons rfl (keep_cons rfl keep_nil)) rfl ?_ | refine g_keep [0, 1, 5, 6, 7, 10, 11, 12] [8, 9] [8, 9] rfl rfl rfl rfl ?_
                   first | exact g_has ⟨h1, rfl, rfl, rfl, ⟨hO1, hs1, hab1, hs_H1, hhr1, hrm1, hsn⟩⟩
                  ·
                   refine ⟨_, rfl, .inl ⟨rfl, ?_⟩⟩
                   refine sm_lit ty70 ty69 rfl rfl rfl rfl rfl rfl rfl ?_
                   refine m_one 3 (by kernel_rfl) rfl rfl ?_
                   refine sm_any rfl (s_append (l := []) (m := ((f x.peer).waits.map encW)) ty70 ty69 rfl rfl (Own.nil ..) rfl rfl (by refine Even.map _ ?_ _; intro _; rfl) (by intro x hx; obtain ⟨_, _, rfl⟩ := List.mem_map.1 hx; rfl) rfl (by simp; omega) (by simp; omega) ?_)
                   intro av104 G104 h104
                   rw [List.nil_append] at h104
                   refine m_one 10 (by kernel_rfl) rfl rfl ?_
                   refine sm_any rfl (s_append (l := ((f x.peer).waits.map encW)) (m := ([(⟨x.now, (f x.peer).last + 1⟩ : BRow)].map encW)) ty70 ty69 rfl rfl h104 rfl rfl (by refine Even.map _ ?_ _; intro _; rfl) (by intro x hx; obtain ⟨_, _, rfl⟩ := List.mem_map.1 hx; rfl) rfl (by simp; omega) (by simp; omega) ?_)
                   intro av111 G111 h111
                   rw [← List.map_append] at h111
                   refine g_freeze 111 rfl h111 ?_
                   refine m_takel 11 rfl rfl (by kernel_rfl) (by kernel_rfl) (by kernel_rfl) (fun _ _ _ _ h => h) (vl_fieldAddr ty72 fo72_2 ty70 rfl) rfl rfl ?_
                   refine m_one 12 (by kernel_rfl) rfl rfl ?_
                   refine sm_any rfl (s_store (new := (encOP ⟨(f x.peer).last + 1, (nextBase (f x.peer) x.now), ((f x.peer).waits ++ [(⟨x.now, (f x.peer).last + 1⟩ : BRow)])⟩)) ty70 rfl rfl rfl rfl rfl rfl rfl ?_)
                   refine m_done (by kernel_rfl) ?_
                   first | refine g_keep [0, 1, 5, 6, 7, 10, 11, 12] [8, 9] [8, 9] (keep_cons rfl (keep_cons rfl (keep_cons rfl (keep_cons rfl (keep_cons rfl (keep_cons rfl (keep_cons rfl (keep_cons rfl keep_nil)))))))) (lkeep_cons rfl (lkeep_cons rfl lkeep_nil)) (keep_cons rfl (keep_cons rfl keep_nil)) rfl ?_ | refine g_keep [0, 1, 5, 6, 7, 10, 11, 12] [8, 9] [8, 9] rfl rfl rfl rfl ?_
                   first | exact g_has ⟨h1, rfl, rfl, rfl, ⟨hO1, hs1, hab1, hs_H1, hhr1, hrm1, hsn⟩⟩
                 ·
                  refine ⟨_, rfl, .inl ⟨rfl, ?_⟩⟩
                  refine sm_lit ty70 ty69 rfl rfl rfl rfl rfl rfl rfl ?_
                  refine m_one 0 (by kernel_rfl) rfl rfl ?_
                  refine sm_lit0 ty70 ty69 rfl ?_
                  refine m_one 3 (by kernel_rfl) rfl rfl ?_
                  refine sm_any rfl (s_append (l := []) (m := ((f x.peer).waits.map encW)) ty70 ty69 rfl rfl (Own.nil ..) rfl rfl (by refine Even.map _ ?_ _; intro _; rfl) (by intro x hx; obtain ⟨_, _, rfl⟩ := List.mem_map.1 hx; rfl) rfl (by simp; omega) (by simp; omega) ?_)
                  intro av104 G104 h104
                  rw [List.nil_append] at h104
                  refine m_one 10 (by kernel_rfl) rfl rfl ?_
                  refine sm_any rfl (s_append (l := ((f x.peer).waits.map encW)) (m := ([(⟨x.now, (f x.peer).last + 1⟩ : BRow)].map encW)) ty70 ty69 rfl rfl h104 rfl rfl (by refine Even.map _ ?_ _; intro _; rfl) (by intro x hx; obtain ⟨_, _, rfl⟩ := List.mem_map.1 hx; rfl) rfl (by simp; omega) (by simp; omega) ?_)
                  intro av111 G111 h111
                  rw [← List.map_append] at h111
                  refine g_freeze 111 rfl h111 ?_
                  refine m_takel 11 rfl rfl (by kernel_rfl) (by kernel_rfl) (by kernel_rfl) (fun _ _ _ _ h => h) (vl_fieldAddr ty72 fo72_2 ty70 rfl) rfl rfl ?_
                  refine m_one 12 (by kernel_rfl) rfl rfl ?_
                  refine sm_any rfl (s_store (new := (encOP ⟨(f x.peer).last + 1, (nextBase (f x.peer) x.now), ((f x.peer).waits ++ [(⟨x.now, (f x.peer).last + 1⟩ : BRow)])⟩)) ty70 rfl rfl rfl rfl rfl rfl rfl ?_)
                  refine m_done (by kernel_rfl) ?_
                  first | refine g_keep [0, 1, 5, 6, 7, 10, 11, 12] [8, 9] [8, 9] (keep_cons rfl (keep_cons rfl (keep_cons rfl (keep_cons rfl (keep_cons rfl (keep_cons rfl (keep_cons rfl (keep_cons rfl keep_nil)))))))) (lkeep_cons rfl (lkeep_cons rfl lkeep_nil)) (keep_cons rfl (keep_cons rfl keep_nil)) rfl ?_ | refine g_keep [0, 1, 5, 6, 7, 10, 11, 12] [8, 9] [8, 9] rfl rfl rfl rfl ?_
                  first | exact g_has ⟨h1, rfl, rfl, rfl, ⟨hO1, hs1, hab1, hs_H1, hhr1, hrm1, hsn⟩⟩
                ·
                 refine ⟨_, rfl, .inl ⟨rfl, ?_⟩⟩
                 refine sm_lit ty70 ty69 rfl rfl rfl rfl rfl rfl rfl ?_
                 refine m_all (is := [0, 2]) (by kernel_rfl) rfl (fun _ _ _ => trivial) (fun i hi => ?_)
                 rcases (by simpa using hi : i = 0 ∨ i = 2) with rfl | rfl
                 ·
                  refine ⟨_, rfl, .inl ⟨rfl, ?_⟩⟩
                  refine sm_lit0 ty70 ty69 rfl ?_
                  refine m_one 2 (by kernel_rfl) rfl rfl ?_
                  refine sm_val (v_loadl ty70 rfl rfl rfl rfl) rfl rfl ?_
                  refine m_one 3 (by kernel_rfl) rfl rfl ?_
                  refine sm_any rfl (s_append (l := []) (m := ((f x.peer).waits.map encW)) ty70 ty69 rfl rfl (Own.nil ..) rfl rfl (by refine Even.map _ ?_ _; intro _; rfl) (by intro x hx; obtain ⟨_, _, rfl⟩ := List.mem_map.1 hx; rfl) rfl (by simp; omega) (by simp; omega) ?_)
                  intro av104 G104 h104
                  rw [List.nil_append] at h104
                  refine m_one 10 (by kernel_rfl) rfl rfl ?_
                  refine sm_any rfl (s_append (l := ((f x.peer).waits.map encW)) (m := ([(⟨x.now, (f x.peer).last + 1⟩ : BRow)].map encW)) ty70 ty69 rfl rfl h104 rfl rfl (by refine Even.map _ ?_ _; intro _; rfl) (by intro x hx; obtain ⟨_, _, rfl⟩ := List.mem_map.1 hx; rfl) rfl (by simp; omega) (by simp; omega) ?_)
                  intro av111 G111 h111
                  rw [← List.map_append] at h111
                  refine g_freeze 111 rfl h111 ?_
                  refine m_takel 11 rfl rfl (by kernel_rfl) (by kernel_rfl) (by kernel_rfl) (fun _ _ _ _ h => h) (vl_fieldAddr ty72 fo72_2 ty70 rfl) rfl rfl ?_
                  refine m_one 12 (by kernel_rfl) rfl rfl ?_
                  refine sm_any rfl (s_store (new := (encOP ⟨(f x.peer).last + 1, (nextBase (f x.peer) x.now), ((f x.peer).waits ++ [(⟨x.now, (f x.peer).last + 1⟩ : BRow)])⟩)) ty70 rfl rfl rfl rfl rfl rfl rfl ?_)
                  refine m_done (by kernel_rfl) ?_
                  first | refine g_keep [0, 1, 5, 6, 7, 10, 11, 12] [8, 9] [8, 9] (keep_cons rfl (keep_cons rfl (keep_cons rfl (keep_cons rfl (keep_cons rfl (keep_cons rfl (keep_cons rfl (keep_cons rfl keep_nil)))))))) (lkeep_cons rfl (lkeep_cons rfl lkeep_nil)) (keep_cons rfl (keep_cons rfl keep_nil)) rfl ?_ | refine g_keep [0, 1, 5, 6, 7, 10, 11, 12] [8, 9] [8, 9] rfl rfl rfl rfl ?_
                  first | exact g_has ⟨h1, rfl, rfl, rfl, ⟨hO1, hs1, hab1, hs_H1, hhr1, hrm1, hsn⟩⟩
                 ·
                  refine ⟨_, rfl, .inl ⟨rfl, ?_⟩⟩
                  refine sm_val (v_loadl ty70 rfl rfl rfl rfl) rfl rfl ?_
                  refine m_one 0 (by kernel_rfl) rfl rfl ?_
                  refine sm_lit0 ty70 ty69 rfl ?_
                  refine m_one 3 (by kernel_rfl) rfl rfl ?_
                  refine sm_any rfl (s_append (l := []) (m := ((f x.peer).waits.map encW)) ty70 ty69 rfl rfl (Own.nil ..) rfl rfl (by refine Even.map _ ?_ _; intro _; rfl) (by intro x hx; obtain ⟨_, _, rfl⟩ := List.mem_map.1 hx; rfl) rfl (by simp; omega) (by simp; omega) ?_)
                  intro av104 G104 h104
                  rw [List.nil_append] at h104
                  refine m_one 10 (by kernel_rfl) rfl rfl ?_
                  refine sm_any rfl (s_append (l := ((f x.peer).waits.map encW)) (m := ([(⟨x.now, (f x.peer).last + 1⟩ : BRow)].map encW)) ty70 ty69 rfl rfl h104 rfl rfl (by refine Even.map _ ?_ _; intro _; rfl) (by intro x hx; obtain ⟨_, _, rfl⟩ := List.mem_map.1 hx; rfl) rfl (by simp; omega) (by simp; omega) ?_)
                  intro av111 G111 h111
                  rw [← List.map_append] at h111
                  refine g_freeze 111 rfl h111 ?_
                  refine m_takel 11 rfl rfl (by kernel_rfl) (by kernel_rfl) (by kernel_rfl) (fun _ _ _ _ h => h) (vl_fieldAddr ty72 fo72_2 ty70 rfl) rfl rfl ?_
                  refine m_one 12 (by kernel_rfl) rfl rfl ?_
                  refine sm_any rfl (s_store (new := (encOP ⟨(f x.peer).last + 1, (nextBase (f x.peer) x.now), ((f x.peer).waits ++ [(⟨x.now, (f x.peer).last + 1⟩ : BRow)])⟩)) ty70 rfl rfl rfl rfl rfl rfl rfl ?_)
                  refine m_done (by kernel_rfl) ?_
                  first | refine g_keep [0, 1, 5, 6, 7, 10, 11, 12] [8, 9] [8, 9] (keep_cons rfl (keep_cons rfl (keep_cons rfl (keep_cons rfl (keep_cons rfl (keep_cons rfl (keep_cons rfl (keep_cons rfl keep_nil)))))))) (lkeep_cons rfl (lkeep_cons rfl lkeep_nil)) (keep_cons rfl (keep_cons rfl keep_nil)) rfl ?_ | refine g_keep [0, 1, 5, 6, 7, 10, 11, 12] [8, 9] [8, 9] rfl rfl rfl rfl ?_
                  first | exact g_has ⟨h1, rfl, rfl, rfl, ⟨hO1, hs1, hab1, hs_H1, hhr1, hrm1, hsn⟩⟩
              ·
               refine ⟨_, rfl, .inl ⟨rfl, ?_⟩⟩
               refine sm_val (v_loadl ty64 rfl rfl rfl rfl) rfl rfl ?_
               refine m_all (is := [0, 2, 5]) (by kernel_rfl) rfl (fun _ _ _ => trivial) (fun i hi => ?_)
               rcases (by simpa using hi : i = 0 ∨ i = 2 ∨ i = 5) with rfl | rfl | rfl
               ·
                refine ⟨_, rfl, .inl ⟨rfl, ?_⟩⟩
                refine sm_lit0 ty70 ty69 rfl ?_
                refine m_all (is := [2, 5]) (by kernel_rfl) rfl (fun _ _ _ => trivial) (fun i hi => ?_)
                rcases (by simpa using hi : i = 2 ∨ i = 5) with rfl | rfl
                ·
                 refine ⟨_, rfl, .inl ⟨rfl, ?_⟩⟩
                 refine sm_val (v_loadl ty70 rfl rfl rfl rfl) rfl rfl ?_
                 refine m_all (is := [3, 5]) (by kernel_rfl) rfl (fun _ _ _ => trivial) (fun i hi => ?_)
                 rcases (by simpa using hi : i = 3 ∨ i = 5) with rfl | rfl
                 ·
                  refine ⟨_, rfl, .inl ⟨rfl, ?_⟩⟩
                  refine sm_any rfl (s_append (l := []) (m := ((f x.peer).waits.map encW)) ty70 ty69 rfl rfl (Own.nil ..) rfl rfl (by refine Even.map _ ?_ _; intro _; rfl) (by intro x hx; obtain ⟨_, _, rfl⟩ := List.mem_map.1 hx; rfl) rfl (by simp; omega) (by simp; omega) ?_)
                  intro av104 G104 h104
                  rw [List.nil_append] at h104
                  refine m_one 5 (by kernel_rfl) rfl rfl ?_
                  refine sm_val (v_loadl ty3 rfl rfl rfl rfl) rfl rfl ?_
                  refine m_take 8 false rfl rfl (by kernel_rfl) (by kernel_rfl) (by kernel_rfl) (fun _ _ _ _ h => h) (v_build (vs := [(0, _), (1, _)]) (zs := [(.int .i64 0), .nil0]) (cells := [_, _]) ty69 pl69 rfl rfl rfl) rfl rfl ?_
                  refine m_one 9 (by kernel_rfl) rfl rfl ?_
                  refine sm_lit ty70 ty69 rfl rfl rfl rfl rfl rfl rfl ?_
                  refine m_one 10 (by kernel_rfl) rfl rfl ?_
                  refine sm_any rfl (s_append (l := ((f x.peer).waits.map encW)) (m := ([(⟨x.now, (f x.peer).last + 1⟩ : BRow)].map encW)) ty70 ty69 rfl rfl h104 rfl rfl (by refine Even.map _ ?_ _; intro _; rfl) (by intro x hx; obtain ⟨_, _, rfl⟩ := List.mem_map.1 hx; rfl) rfl (by simp; omega) (by simp; omega) ?_)
                  intro av111 G111 h111
                  rw [← List.map_append] at h111
                  refine g_freeze 111 rfl h111 ?_
                  refine m_takel 11 rfl rfl (by kernel_rfl) (by kernel_rfl) (by kernel_rfl) (fun _ _ _ _ h => h) (vl_fieldAddr ty72 fo72_2 ty70 rfl) rfl rfl ?_
                  refine m_one 12 (by kernel_rfl) rfl rfl ?_
                  refine sm_any rfl (s_store (new := (encOP ⟨(f x.peer).last + 1, (nextBase (f x.peer) x.now), ((f x.peer).waits ++ [(⟨x.now, (f x.peer).last + 1⟩ : BRow)])⟩)) ty70 rfl rfl rfl rfl rfl rfl rfl ?_)
                  refine m_done (by kernel_rfl) ?_
                  first | refine g_keep [0, 1, 5, 6, 7, 10, 11, 12] [8, 9] [8, 9] (keep_cons rfl (keep_cons rfl (keep_cons rfl (keep_cons rfl (keep_cons rfl (keep_cons rfl (keep_cons rfl (keep_cons rfl keep_nil)))))))) (lkeep_cons rfl (lkeep_cons rfl lkeep_nil)) (keep_cons rfl (keep_cons rfl keep_nil)) rfl ?_ | refine g_keep [0, 1, 5, 6, 7, 10, 11, 12] [8, 9] [8, 9] rfl rfl rfl rfl ?_
                  first | exact g_has ⟨h1, rfl, rfl, rfl, ⟨hO1, hs1, hab1, hs_H1, hhr1, hrm1, hsn⟩⟩
                 ·
                  refine ⟨_, rfl, .inl ⟨rfl, ?_⟩⟩
                  refine sm_val (v_loadl ty3 rfl rfl rfl rfl) rfl rfl ?_
                  refine m_take 8 false rfl rfl (by kernel_rfl) (by kernel_rfl) (by kernel_rfl) (fun _ _ _ _ h => h) (v_build (vs := [(0, _), (1, _)]) (zs := [(.int .i64 0), .nil0]) (cells := [_, _]) ty69 pl69 rfl rfl rfl) rfl rfl ?_
                  refine m_all (is := [3, 9]) (by kernel_rfl) rfl (fun _ _ _ => trivial) (fun i hi => ?_)
                  rcases (by simpa using hi : i = 3 ∨ i = 9) with rfl | rfl
                  ·
                   refine ⟨_, rfl, .inl ⟨rfl, ?_⟩⟩
                   refine sm_any rfl (s_append (l := []) (m := ((f x.peer).waits.map encW)) ty70 ty69 rfl rfl (Own.nil ..) rfl rfl (by refine Even.map _ ?_ _; intro _; rfl) (by intro x hx; obtain ⟨_, _, rfl⟩ := List.mem_map.1 hx; rfl) rfl (by simp; omega) (by simp; omega) ?_)
                   intro av104 G104 h104
                   rw [List.nil_append] at h104
                   refine m_one 9 (by kernel_rfl) rfl rfl ?_
                   refine sm_lit ty70 ty69 rfl rfl rfl rfl rfl rfl rfl ?_
                   refine m_one 10 (by kernel_rfl) rfl rfl ?_
                   refine sm_any rfl (s_append (l := ((f x.peer).waits.map encW)) (m := ([(⟨x.now, (f x.peer).last + 1⟩ : BRow)].map encW)) ty70 ty69 rfl rfl h104 rfl rfl (by refine Even.map _ ?_ _; intro _; rfl) (by intro x hx; obtain ⟨_, _, rfl⟩ := List.mem_map.1 hx; rfl) rfl (by simp; omega) (by simp; omega) ?_)
                   intro av111 G111 h111
                   rw [← List.map_append] at h111
                   refine g_freeze 111 rfl h111 ?_
                   refine m_takel 11 rfl rfl (by kernel_rfl) (by kernel_rfl) (by kernel_rfl) (fun _ _ _ _ h => h) (vl_fieldAddr ty72 fo72_2 ty70 rfl) rfl rfl ?_
                   refine m_one 12 (by kernel_rfl) rfl rfl ?_
                   refine sm_any rfl (s_store (new := (encOP ⟨(f x.peer).last + 1, (nextBase (f x.peer) x.now), ((f x.peer).waits ++ [(⟨x.now, (f x.peer).last + 1⟩ : BRow)])⟩)) ty70 rfl rfl rfl rfl rfl rfl rfl ?_)
                   refine m_done (by kernel_rfl) ?_
                   first | refine g_keep [0, 1, 5, 6, 7, 10, 11, 12] [8, 9] [8, 9] (keep_cons rfl (keep_cons rfl (keep_cons rfl (keep_cons rfl (keep_cons rfl (keep_cons rfl (keep_cons rfl (keep_cons rfl keep_nil)))))))) (lkeep_cons rfl (lkeep_cons rfl lkeep_nil)) (keep_cons rfl (keep_cons rfl keep_nil)) rfl ?_ | refine g_keep [0, 1, 5, 6, 7, 10, 11, 12] [8, 9] [8, 9] rfl rfl rfl rfl ?_
                   first | exact g_has ⟨h1, rfl, rfl, rfl, ⟨hO1, hs1, hab1, hs_H1, hhr1, hrm1, hsn⟩⟩
                  ·
                   refine ⟨_, rfl, .inl ⟨rfl, ?_⟩⟩
                   refine sm_lit ty70 ty69 rfl rfl rfl rfl rfl rfl rfl ?_
                   refine m_one 3 (by kernel_rfl) rfl rfl ?_
                   refine sm_any rfl (s_append (l := []) (m := ((f x.peer).waits.map encW)) ty70 ty69 rfl rfl (Own.nil ..) rfl rfl (by refine Even.map _ ?_ _; intro _; rfl) (by intro x hx; obtain ⟨_, _, rfl⟩ := List.mem_map.1 hx; rfl) rfl (by simp; omega) (by simp; omega) ?_)
                   intro av104 G104 h104
                   rw [List.nil_append] at h104
                   refine m_one 10 (by kernel_rfl) rfl rfl ?_
                   refine sm_any rfl (s_append (l := ((f x.peer).waits.map encW)) (m := ([(⟨x.now, (f x.peer).last + 1⟩ : BRow)].map encW)) ty70 ty69 rfl rfl h104 rfl rfl (by refine Even.map _ ?_ _; intro _; rfl) (by intro x hx; obtain ⟨_, _, rfl⟩ := List.mem_map.1 hx; rfl) rfl (by simp; omega) (by simp; omega) ?_)
                   intro av111 G111 h111
                   rw [← List.map_append] at h111
                   refine g_freeze 111 rfl h111 ?_
                   refine m_takel 11 rfl rfl (by kernel_rfl) (by kernel_rfl) (by kernel_rfl) (fun _ _ _ _ h => h) (vl_fieldAddr ty72 fo72_2 ty70 rfl) rfl rfl ?_
                   refine m_one 12 (by kernel_rfl) rfl rfl ?_
                   refine sm_any rfl (s_store (new := (encOP ⟨(f x.peer).last + 1, (nextBase (f x.peer) x.now), ((f x.peer).waits ++ [(⟨x.now, (f x.peer).last + 1⟩ : BRow)])⟩)) ty70 rfl rfl rfl rfl rfl rfl rfl ?_)
                   refine m_done (by kernel_rfl) ?_
                   first | refine g_keep [0, 1, 5, 6, 7, 10, 11, 12] [8, 9] [8, 9] (keep_cons rfl (keep_cons rfl (keep_cons rfl (keep_cons rfl (keep_cons rfl (keep_cons rfl (keep_cons rfl (keep_cons rfl keep_nil)))))))) (lkeep_cons rfl (lkeep_cons rfl lkeep_nil)) (keep_cons rfl (keep_cons rfl keep_nil)) rfl ?_ | refine g_keep [0, 1, 5, 6, 7, 10, 11, 12] [8, 9] [8, 9] rfl rfl rfl rfl ?_
                   first | exact g_has ⟨h1, rfl, rfl, rfl, ⟨hO1, hs1, hab1, hs_H1, hhr1, hrm1, hsn⟩⟩
                ·
                 refine ⟨_, rfl, .inl ⟨rfl, ?_⟩⟩
                 refine sm_val (v_loadl ty3 rfl rfl rfl rfl) rfl rfl ?_
                 refine m_take 8 false rfl rfl (by kernel_rfl) (by kernel_rfl) (by kernel_rfl) (fun _ _ _ _ h => h) (v_build (vs := [(0, _), (1, _)]) (zs := [(.int .i64 0), .nil0]) (cells := [_, _]) ty69 pl69 rfl rfl rfl) rfl rfl ?_
                 refine m_all (is := [2, 9]) (by kernel_rfl) rfl (fun _ _ _ => trivial) (fun i hi => ?_)
                 rcases (by simpa using hi : i = 2 ∨ i = 9) with rfl | rfl
                 ·
                  refine ⟨_, rfl, .inl ⟨rfl, ?_⟩⟩
                  refine sm_val (v_loadl ty70 rfl rfl rfl rfl) rfl rfl ?_
                  refine m_all (is := [3, 9]) (by kernel_rfl) rfl (fun _ _ _ => trivial) (fun i hi => ?_)
                  rcases (by simpa using hi : i = 3 ∨ i = 9) with rfl | rfl
                  ·
                   refine ⟨_, rfl, .inl ⟨rfl, ?_⟩⟩
                   refine sm_any rfl (s_append (l := []) (m := ((f x.peer).waits.map encW)) ty70 ty69 rfl rfl (Own.nil ..) rfl rfl (by refine Even.map _ ?_ _; intro _; rfl) (by intro x hx; obtain ⟨_, _, rfl⟩ := List.mem_map.1 hx; rfl) rfl (by simp; omega) (by simp; omega) ?_)
                   intro av104 G104 h104
                   rw [List.nil_append] at h104
                   refine m_one 9 (by kernel_rfl) rfl rfl ?_
                   refine sm_lit ty70 ty69 rfl rfl rfl rfl rfl rfl rfl ?_
                   refine m_one 10 (by kernel_rfl) rfl rfl ?_
                   refine sm_any rfl (s_append (l := ((f x.peer).waits.map encW)) (m := ([(⟨x.now, (f x.peer).last + 1⟩ : BRow)].map encW)) ty70 ty69 rfl rfl h104 rfl rfl (by refine Even.map _ ?_ _; intro _; rfl) (by intro x hx; obtain ⟨_, _, rfl⟩ := List.mem_map.1 hx; rfl) rfl (by simp; omega) (by simp; omega) ?_)
                   intro av111 G111 h111
                   rw [← List.map_append] at h111
                   refine g_freeze 111 rfl h111 ?_
                   refine m_takel 11 rfl rfl (by kernel_rfl) (by kernel_rfl) (by kernel_rfl) (fun _ _ _ _ h => h) (vl_fieldAddr ty72 fo72_2 ty70 rfl) rfl rfl ?_
                   refine m_one 12 (by kernel_rfl) rfl rfl ?_
                   refine sm_any rfl (s_store (new := (encOP ⟨(f x.peer).last + 1, (nextBase (f x.peer) x.now), ((f x.peer).waits ++ [(⟨x.now, (f x.peer).last + 1⟩ : BRow)])⟩)) ty70 rfl rfl rfl rfl rfl rfl rfl ?_)
                   refine m_done (by kernel_rfl) ?_
                   first | refine g_keep [0, 1, 5, 6, 7, 10, 11, 12] [8, 9] [8, 9] (keep_cons rfl (keep_cons rfl (keep_cons rfl (keep_cons rfl (keep_cons rfl (keep_cons rfl (keep_cons rfl (keep_cons rfl keep_nil)))))))) (lkeep_cons rfl (lkeep_cons rfl lkeep_nil)) (keep_cons rfl (keep_cons rfl keep_nil)) rfl ?_ | refine g_keep [0, 1, 5, 6, 7, 10, 11, 12] [8, 9] [8, 9] rfl rfl rfl rfl ?_
                   first | exact g_has ⟨h1, rfl, rfl, rfl, ⟨hO1, hs1, hab1, hs_H1, hhr1, hrm1, hsn⟩⟩
                  ·
                   refine ⟨_, rfl, .inl ⟨rfl, ?_⟩⟩
                   refine sm_lit ty70 ty69 rfl rfl rfl rfl rfl rfl rfl ?_
                   refine m_one 3 (by kernel_rfl) rfl rfl ?_
                   refine sm_any rfl (s_append (l := []) (m := ((f x.peer).waits.map encW)) ty70 ty69 rfl rfl (Own.nil ..) rfl rfl (by refine Even.map _ ?_ _; intro _; rfl) (by intro x hx; obtain ⟨_, _, rfl⟩ := List.mem_map.1 hx; rfl) rfl (by simp; omega) (by simp; omega) ?_)
                   intro av104 G104 h104
                   rw [List.nil_append] at h104
                   refine m_one 10 (by kernel_rfl) rfl rfl ?_
                   refine sm_any rfl (s_append (l := ((f x.peer).waits.map encW)) (m := ([(⟨x.now, (f x.peer).last + 1⟩ : BRow)].map encW)) ty70 ty69 rfl rfl h104 rfl rfl (by refine Even.map _ ?_ _; intro _; rfl) (by intro x hx; obtain ⟨_, _, rfl⟩ := List.mem_map.1 hx; rfl) rfl (by simp; omega) (by simp; omega) ?_)
                   intro av111 G111 h111
                   rw [← List.map_append] at h111
                   refine g_freeze 111 rfl h111 ?_
                   refine m_takel 11 rfl rfl (by kernel_rfl) (by kernel_rfl) (by kernel_rfl) (fun _ _ _ _ h => h) (vl_fieldAddr ty72 fo72_2 ty70 rfl) rfl rfl ?_
                   refine m_one 12 (by kernel_rfl) rfl rfl ?_
                   refine sm_any rfl (s_store (new := (encOP ⟨(f x.peer).last + 1, (nextBase (f x.peer) x.now), ((f x.peer).waits ++ [(⟨x.now, (f x.peer).last + 1⟩ : BRow)])⟩)) ty70 rfl rfl rfl rfl rfl rfl rfl ?_)
                   refine m_done (by kernel_rfl) ?_
                   first | refine g_keep [0, 1, 5, 6, 7, 10, 11, 12] [8, 9] [8, 9] (keep_cons rfl (keep_cons rfl (keep_cons rfl (keep_cons rfl (keep_cons rfl (keep_cons rfl (keep_cons rfl (keep_cons rfl keep_nil)))))))) (lkeep_cons rfl (lkeep_cons rfl lkeep_nil)) (keep_cons rfl (keep_cons rfl keep_nil)) rfl ?_ | refine g_keep [0, 1, 5, 6, 7, 10, 11, 12] [8, 9] [8, 9] rfl rfl rfl rfl ?_
                   first | exact g_has ⟨h1, rfl, rfl, rfl, ⟨hO1, hs1, hab1, hs_H1, hhr1, hrm1, hsn⟩⟩
                 ·
                  refine ⟨_, rfl, .inl ⟨rfl, ?_⟩⟩
                  refine sm_lit ty70 ty69 rfl rfl rfl rfl rfl rfl rfl ?_
                  refine m_one 2 (by kernel_rfl) rfl rfl ?_
                  refine sm_val (v_loadl ty70 rfl rfl rfl rfl) rfl rfl ?_
                  refine m_one 3 (by kernel_rfl) rfl rfl ?_
                  refine sm_any rfl (s_append (l := []) (m := ((f x.peer).waits.map encW)) ty70 ty69 rfl rfl (Own.nil ..) rfl rfl (by refine Even.map _ ?_ _; intro _; rfl) (by intro x hx; obtain ⟨_, _, rfl⟩ := List.mem_map.1 hx; rfl) rfl (by simp; omega) (by simp; omega) ?_)
                  intro av104 G104 h104
                  rw [List.nil_append] at h104
                  refine m_one 10 (by kernel_rfl) rfl rfl ?_
                  refine sm_any rfl (s_append (l := ((f x.peer).waits.map encW)) (m := ([(⟨x.now, (f x.peer).last + 1⟩ : BRow)].map encW)) ty70 ty69 rfl rfl h104 rfl rfl (by refine Even.map _ ?_ _; intro _; rfl) (by intro x hx; obtain ⟨_, _, rfl⟩ := List.mem_map.1 hx; rfl) rfl (by simp; omega) (by simp; omega) ?_)
                  intro av111 G111 h111
                  rw [← List.map_append] at h111
                  refine g_freeze 111 rfl h111 ?_
                  refine m_takel 11 rfl rfl (by kernel_rfl) (by kernel_rfl) (by kernel_rfl) (fun _ _ _ _ h => h) (vl_fieldAddr ty72 fo72_2 ty70 rfl) rfl rfl ?_
                  refine m_one 12 (by kernel_rfl) rfl rfl ?_
                  refine sm_any rfl (s_store (new := (encOP ⟨(f x.peer).last + 1, (nextBase (f x.peer) x.now), ((f x.peer).waits ++ [(⟨x.now, (f x.peer).last + 1⟩ : BRow)])⟩)) ty70 rfl rfl rfl rfl rfl rfl rfl ?_)
                  refine m_done (by kernel_rfl) ?_
                  first | refine g_keep [0, 1, 5, 6, 7, 10, 11, 12] [8, 9] [8, 9] (keep_cons rfl (keep_cons rfl (keep_cons rfl (keep_cons rfl (keep_cons rfl (keep_cons rfl (keep_cons rfl (keep_cons rfl keep_nil)))))))) (lkeep_cons rfl (lkeep_cons rfl lkeep_nil)) (keep_cons rfl (keep_cons rfl keep_nil)) rfl ?_ | refine g_keep [0, 1, 5, 6, 7, 10, 11, 12] [8, 9] [8, 9] rfl rfl rfl rfl ?_
                  first | exact g_has ⟨h1, rfl, rfl, rfl, ⟨hO1, hs1, hab1, hs_H1, hhr1, hrm1, hsn⟩⟩
               ·
                refine ⟨_, rfl, .inl ⟨rfl, ?_⟩⟩
                refine sm_val (v_loadl ty70 rfl rfl rfl rfl) rfl rfl ?_
                refine m_all (is := [0, 5]) (by kernel_rfl) rfl (fun _ _ _ => trivial) (fun i hi => ?_)
                rcases (by simpa using hi : i = 0 ∨ i = 5) with rfl | rfl
                ·
                 refine ⟨_, rfl, .inl ⟨rfl, ?_⟩⟩
                 refine sm_lit0 ty70 ty69 rfl ?_
                 refine m_all (is := [3, 5]) (by kernel_rfl) rfl (fun _ _ _ => trivial) (fun i hi => ?_)
                 rcases (by simpa using hi : i = 3 ∨ i = 5) with rfl | rfl
                 ·
                  refine ⟨_, rfl, .inl ⟨rfl, ?_⟩⟩
                  refine sm_any rfl (s_append (l := []) (m := ((f x.peer).waits.map encW)) ty70 ty69 rfl rfl (Own.nil ..) rfl rfl (by refine Even.map _ ?_ _; intro _; rfl) (by intro x hx; obtain ⟨_, _, rfl⟩ := List.mem_map.1 hx; rfl) rfl (by simp; omega) (by simp; omega) ?_)
                  intro av104 G104 h104
                  rw [List.nil_append] at h104
                  refine m_one 5 (by kernel_rfl) rfl rfl ?_
                  refine sm_val (v_loadl ty3 rfl rfl rfl rfl) rfl rfl ?_
                  refine m_take 8 false rfl rfl (by kernel_rfl) (by kernel_rfl) (by kernel_rfl) (fun _ _ _ _ h => h) (v_build (vs := [(0, _), (1, _)]) (zs := [(.int .i64 0), .nil0]) (cells := [_, _]) ty69 pl69 rfl rfl rfl) rfl rfl ?_
                  refine m_one 9 (by kernel_rfl) rfl rfl ?_
                  refine sm_lit ty70 ty69 rfl rfl rfl rfl rfl rfl rfl ?_
                  refine m_one 10 (by kernel_rfl) rfl rfl ?_
                  refine sm_any rfl (s_append (l := ((f x.peer).waits.map encW)) (m := ([(⟨x.now, (f x.peer).last + 1⟩ : BRow)].map encW)) ty70 ty69 rfl rfl h104 rfl rfl (by refine Even.map _ ?_ _; intro _; rfl) (by intro x hx; obtain ⟨_, _, rfl⟩ := List.mem_map.1 hx; rfl) rfl (by simp; omega) (by simp; omega) ?_)
                  intro av111 G111 h111
                  rw [← List.map_append] at h111
                  refine g_freeze 111 rfl h111 ?_
                  refine m_takel 11 rfl rfl (by kernel_rfl) (by kernel_rfl) (by kernel_rfl) (fun _ _ _ _ h => h) (vl_fieldAddr ty72 fo72_2 ty70 rfl) rfl rfl ?_
                  refine m_one 12 (by kernel_rfl) rfl rfl ?_
                  refine sm_any rfl (s_store (new := (encOP ⟨(f x.peer).last + 1, (nextBase (f x.peer) x.now), ((f x.peer).waits ++ [(⟨x.now, (f x.peer).last + 1⟩ : BRow)])⟩)) ty70 rfl rfl rfl rfl rfl rfl rfl ?_)
                  refine m_done (by kernel_rfl) ?_
                  first | refine g_keep [0, 1, 5, 6, 7, 10, 11, 12] [8, 9] [8, 9] (keep_cons rfl (keep_cons rfl (keep_cons rfl (keep_cons rfl (keep_cons rfl (keep_cons rfl (keep_cons rfl (keep_cons rfl keep_nil)))))))) (lkeep_cons rfl (lkeep_cons rfl lkeep_nil)) (keep_cons rfl (keep_cons rfl keep_nil)) rfl ?_ | refine g_keep [0, 1, 5, 6, 7, 10, 11, 12] [8, 9] [8, 9] rfl rfl rfl rfl ?_
                  first | exact g_has ⟨h1, rfl, rfl, rfl, ⟨hO1, hs1, hab1, hs_H1, hhr1, hrm1, hsn⟩⟩
                 ·
                  refine ⟨_, rfl, .inl ⟨rfl, ?_⟩⟩
                  refine sm_val (v_loadl ty3 rfl rfl rfl rfl) rfl rfl ?_
                  refine m_take 8 false rfl rfl (by kernel_rfl) (by kernel_rfl) (by kernel_rfl) (fun _ _ _ _ h => h) (v_build (vs := [(0, _), (1, _)]) (zs := [(.int .i64 0), .nil0]) (cells := [_, _]) ty69 pl69 rfl rfl rfl) rfl rfl ?_
                  refine m_all (is := [3, 9]) (by kernel_rfl) rfl (fun _ _ _ => trivial) (fun i hi => ?_)
                  rcases (by simpa using hi : i = 3 ∨ i = 9) with rfl | rfl
                  ·
                   refine ⟨_, rfl, .inl ⟨rfl, ?_⟩⟩
                   refine sm_any rfl (s_append (l := []) (m := ((f x.peer).waits.map encW)) ty70 ty69 rfl rfl (Own.nil ..) rfl rfl (by refine Even.map _ ?_ _; intro _; rfl) (by intro x hx; obtain ⟨_, _, rfl⟩ := List.mem_map.1 hx; rfl) rfl (by simp; omega) (by simp; omega) ?_)
                   intro av104 G104 h104
                   rw [List.nil_append] at h104
                   refine m_one 9 (by kernel_rfl) rfl rfl ?_
                   refine sm_lit ty70 ty69 rfl rfl rfl rfl rfl rfl rfl ?_
                   refine m_one 10 (by kernel_rfl) rfl rfl ?_
                   refine sm_any rfl (s_append (l := ((f x.peer).waits.map encW)) (m := ([(⟨x.now, (f x.peer).last + 1⟩ : BRow)].map encW)) ty70 ty69 rfl rfl h104 rfl rfl (by refine Even.map _ ?_ _; intro _; rfl) (by intro x hx; obtain ⟨_, _, rfl⟩ := List.mem_map.1 hx; rfl) rfl (by simp; omega) (by simp; omega) ?_)
                   intro av111 G111 h111
                   rw [← List.map_append] at h111
                   refine g_freeze 111 rfl h111 ?_
                   refine m_takel 11 rfl rfl (by kernel_rfl) (by kernel_rfl) (by kernel_rfl) (fun _ _ _ _ h => h) (vl_fieldAddr ty72 fo72_2 ty70 rfl) rfl rfl ?_
                   refine m_one 12 (by kernel_rfl) rfl rfl ?_
                   refine sm_any rfl (s_store (new := (encOP ⟨(f x.peer).last + 1, (nextBase (f x.peer) x.now), ((f x.peer).waits ++ [(⟨x.now, (f x.peer).last + 1⟩ : BRow)])⟩)) ty70 rfl rfl rfl rfl rfl rfl rfl ?_)
                   refine m_done (by kernel_rfl) ?_
                   first | refine g_keep [0, 1, 5, 6, 7, 10, 11, 12] [8, 9] [8, 9] (keep_cons rfl (keep_cons rfl (keep_cons rfl (keep_cons rfl (keep_cons rfl (keep_cons rfl (keep_cons rfl (keep_cons rfl keep_nil)))))))) (lkeep_cons rfl (lkeep_cons rfl lkeep_nil)) (keep_cons rfl (keep_cons rfl keep_nil)) rfl ?_ | refine g_keep [0, 1, 5, 6, 7, 10, 11, 12] [8, 9] [8, 9] rfl rfl rfl rfl ?_
                   first | exact g_has ⟨h1, rfl, rfl, rfl, ⟨hO1, hs1, hab1, hs_H1, hhr1, hrm1, hsn⟩⟩
                  ·
                   refine ⟨_, rfl, .inl ⟨rfl, ?_⟩⟩
                   refine sm_lit ty70 ty69 rfl rfl rfl rfl rfl rfl rfl ?_
                   refine m_one 3 (by kernel_rfl) rfl rfl ?_
                   refine sm_any rfl (s_append (l := []) (m := ((f x.peer).waits.map encW)) ty70 ty69 rfl rfl (Own.nil ..) rfl rfl (by refine Even.map _ ?_ _; intro _; rfl) (by intro x hx; obtain ⟨_, _, rfl⟩ := List.mem_map.1 hx; rfl) rfl (by simp; omega) (by simp; omega) ?_)
                   intro av104 G104 h104
                   rw [List.nil_append] at h104
                   refine m_one 10 (by kernel_rfl) rfl rfl ?_
                   refine sm_any rfl (s_append (l := ((f x.peer).waits.map encW)) (m := ([(⟨x.now, (f x.peer).last + 1⟩ : BRow)].map encW)) ty70 ty69 rfl rfl h104 rfl rfl (by refine Even.map _ ?_ _; intro _; rfl) (by intro x hx; obtain ⟨_, _, rfl⟩ := List.mem_map.1 hx; rfl) rfl (by simp; omega) (by simp; omega) ?_)
                   intro av111 G111 h111
                   rw [← List.map_append] at h111
                   refine g_freeze 111 rfl h111 ?_
                   refine m_takel 11 rfl rfl (by kernel_rfl) (by kernel_rfl) (by kernel_rfl) (fun _ _ _ _ h => h) (vl_fieldAddr ty72 fo72_2 ty70 rfl) rfl rfl ?_
                   refine m_one 12 (by kernel_rfl) rfl rfl ?_
                   refine sm_any rfl (s_store (new := (encOP ⟨(f x.peer).last + 1, (nextBase (f x.peer) x.now), ((f x.peer).waits ++ [(⟨x.now, (f x.peer).last + 1⟩ : BRow)])⟩)) ty70 rfl rfl rfl rfl rfl rfl rfl ?_)
                   refine m_done (by kernel_rfl) ?_
                   first | refine g_keep [0, 1, 5, 6, 7, 10, 11, 12] [8, 9] [8, 9] (keep_cons rfl (keep_cons rfl (keep_cons rfl (keep_cons rfl (keep_cons rfl (keep_cons rfl (keep_cons rfl (keep_cons rfl keep_nil)))))))) (lkeep_cons rfl (lkeep_cons rfl lkeep_nil)) (keep_cons rfl (keep_cons rfl keep_nil)) rfl ?_ | refine g_keep [0, 1, 5, 6, 7, 10, 11, 12] [8, 9] [8, 9] rfl rfl rfl rfl ?_
                   first | exact g_has ⟨h1, rfl, rfl, rfl, ⟨hO1, hs1, hab1, hs_H1, hhr1, hrm1, hsn⟩⟩
                ·
                 refine ⟨_, rfl, .inl ⟨rfl, ?_⟩⟩
                 refine sm_val (v_loadl ty3 rfl rfl rfl rfl) rfl rfl ?_
                 refine m_take 8 false rfl rfl (by kernel_rfl) (by kernel_rfl) (by kernel_rfl) (fun _ _ _ _ h => h) (v_build (vs := [(0, _), (1, _)]) (zs := [(.int .i64 0), .nil0]) (cells := [_, _]) ty69 pl69 rfl rfl rfl) rfl rfl ?_
                 refine m_all (is := [0, 9]) (by kernel_rfl) rfl (fun _ _ _ => trivial) (fun i hi => ?_)
                 rcases (by simpa using hi : i = 0 ∨ i = 9) with rfl | rfl
                 ·
                  refine ⟨_, rfl, .inl ⟨rfl, ?_⟩⟩
                  refine sm_lit0 ty70 ty69 rfl ?_
                  refine m_all (is := [3, 9]) (by kernel_rfl) rfl (fun _ _ _ => trivial) (fun i hi => ?_)
                  rcases (by simpa using hi : i = 3 ∨ i = 9) with rfl | rfl
                  ·
                   refine ⟨_, rfl, .inl ⟨rfl, ?_⟩⟩
                   refine sm_any rfl (s_append (l := []) (m := ((f x.peer).waits.map encW)) ty70 ty69 rfl rfl (Own.nil ..) rfl rfl (by refine Even.map _ ?_ _; intro _; rfl) (by intro x hx; obtain ⟨_, _, rfl⟩ := List.mem_map.1 hx; rfl) rfl (by simp; omega) (by simp; omega) ?_)
                   intro av104 G104 h104
                   rw [List.nil_append] at h104
                   refine m_one 9 (by kernel_rfl) rfl rfl ?_
                   refine sm_lit ty70 ty69 rfl rfl rfl rfl rfl rfl rfl ?_
                   refine m_one 10 (by kernel_rfl) rfl rfl ?_
                   refine sm_any rfl (s_append (l := ((f x.peer).waits.map encW)) (m := ([(⟨x.now, (f x.peer).last + 1⟩ : BRow)].map encW)) ty70 ty69 rfl rfl h104 rfl rfl (by refine Even.map _ ?_ _; intro _; rfl) (by intro x hx; obtain ⟨_, _, rfl⟩ := List.mem_map.1 hx; rfl) rfl (by simp; omega) (by simp; omega) ?_)
                   intro av111 G111 h111
                   rw [← List.map_append] at h111
                   refine g_freeze 111 rfl h111 ?_
                   refine m_takel 11 rfl rfl (by kernel_rfl) (by kernel_rfl) (by kernel_rfl) (fun _ _ _ _ h => h) (vl_fieldAddr ty72 fo72_2 ty70 rfl) rfl rfl ?_
                   refine m_one 12 (by kernel_rfl) rfl rfl ?_
                   refine sm_any rfl (s_store (new := (encOP ⟨(f x.peer).last + 1, (nextBase (f x.peer) x.now), ((f x.peer).waits ++ [(⟨x.now, (f x.peer).last + 1⟩ : BRow)])⟩)) ty70 rfl rfl rfl rfl rfl rfl rfl ?_)
                   refine m_done (by kernel_rfl) ?_
                   first | refine g_keep [0, 1, 5, 6, 7, 10, 11, 12] [8, 9] [8, 9] (keep_cons rfl (keep_cons rfl (keep_cons rfl (keep_cons rfl (keep_cons rfl (keep_cons rfl (keep_cons rfl (keep_cons rfl keep_nil)))))))) (lkeep_cons rfl (lkeep_cons rfl lkeep_nil)) (keep_cons rfl (keep_cons rfl keep_nil)) rfl ?_ | refine g_keep [0, 1, 5, 6, 7, 10, 11, 12] [8, 9] [8, 9] rfl rfl rfl rfl ?_
                   first | exact g_has ⟨h1, rfl, rfl, rfl, ⟨hO1, hs1, hab1, hs_H1, hhr1, hrm1, hsn⟩⟩
                  ·
                   refine ⟨_, rfl, .inl ⟨rfl, ?_⟩⟩
                   refine sm_lit ty70 ty69 rfl rfl rfl rfl rfl rfl rfl ?_
                   refine m_one 3 (by kernel_rfl) rfl rfl ?_
                   refine sm_any rfl (s_append (l := []) (m := ((f x.peer).waits.map encW)) ty70 ty69 rfl rfl (Own.nil ..) rfl rfl (by refine Even.map _ ?_ _; intro _; rfl) (by intro x hx; obtain ⟨_, _, rfl⟩ := List.mem_map.1 hx; rfl) rfl (by simp; omega) (by simp; omega) ?_)
                   intro av104 G104 h104
                   rw [List.nil_append] at h104
                   refine m_one 10 (by kernel_rfl) rfl rfl ?_
                   refine sm_any rfl (s_append (l := ((f x.peer).waits.map encW)) (m := ([(⟨x.now, (f x.peer).last + 1⟩ : BRow)].map encW)) ty70 ty69 rfl rfl h104 rfl rfl (by refine Even.map _ ?_ _; intro _; rfl) (by intro x hx; obtain ⟨_, _, rfl⟩ := List.mem_map.1 hx; rfl) rfl (by simp; omega) (by simp; omega) ?_)
                   intro av111 G111 h111
                   rw [← List.map_append] at h111
                   refine g_freeze 111 rfl h111 ?_
                   refine m_takel 11 rfl rfl (by kernel_rfl) (by kernel_rfl) (by kernel_rfl) (fun _ _ _ _ h => h) (vl_fieldAddr ty72 fo72_2 ty70 rfl) rfl rfl ?_
                   refine m_one 12 (by kernel_rfl) rfl rfl ?_
                   refine sm_any rfl (s_store (new := (encOP ⟨(f x.peer).last + 1, (nextBase (f x.peer) x.now), ((f x.peer).waits ++ [(⟨x.now, (f x.peer).last + 1⟩ : BRow)])⟩)) ty70 rfl rfl rfl rfl rfl rfl rfl ?_)
                   refine m_done (by kernel_rfl) ?_
                   first | refine g_keep [0, 1, 5, 6, 7, 10, 11, 12] [8, 9] [8, 9] (keep_cons rfl (keep_cons rfl (keep_cons rfl (keep_cons rfl (keep_cons rfl (keep_cons rfl (keep_cons rfl (keep_cons rfl keep_nil)))))))) (lkeep_cons rfl (lkeep_cons rfl lkeep_nil)) (keep_cons rfl (keep_cons rfl keep_nil)) rfl ?_ | refine g_keep [0, 1, 5, 6, 7, 10, 11, 12] [8, 9] [8, 9] rfl rfl rfl rfl ?_
                   first | exact g_has ⟨h1, rfl, rfl, rfl, ⟨hO1, hs1, hab1, hs_H1, hhr1, hrm1, hsn⟩⟩
                 ·
                  refine ⟨_, rfl, .inl ⟨rfl, ?_⟩⟩
                  refine sm_lit ty70 ty69 rfl rfl rfl rfl rfl rfl rfl ?_
                  refine m_one 0 (by kernel_rfl) rfl rfl ?_
                  refine sm_lit0 ty70 ty69 rfl ?_
                  refine m_one 3 (by kernel_rfl) rfl rfl ?_
                  refine sm_any rfl (s_append (l := []) (m := ((f x.peer).waits.map encW)) ty70 ty69 rfl rfl (Own.nil ..) rfl rfl (by refine Even.map _ ?_ _; intro _; rfl) (by intro x hx; obtain ⟨_, _, rfl⟩ := List.mem_map.1 hx; rfl) rfl (by simp; omega) (by simp; omega) ?_)
                  intro av104 G104 h104
                  rw [List.nil_append] at h104
                  refine m_one 10 (by kernel_rfl) rfl rfl ?_
                  refine sm_any rfl (s_append (l := ((f x.peer).waits.map encW)) (m := ([(⟨x.now, (f x.peer).last + 1⟩ : BRow)].map encW)) ty70 ty69 rfl rfl h104 rfl rfl (by refine Even.map _ ?_ _; intro _; rfl) (by intro x hx; obtain ⟨_, _, rfl⟩ := List.mem_map.1 hx; rfl) rfl (by simp; omega) (by simp; omega) ?_)
                  intro av111 G111 h111
                  rw [← List.map_append] at h111
                  refine g_freeze 111 rfl h111 ?_
                  refine m_takel 11 rfl rfl (by kernel_rfl) (by kernel_rfl) (by kernel_rfl) (fun _ _ _ _ h => h) (vl_fieldAddr ty72 fo72_2 ty70 rfl) rfl rfl ?_
                  refine m_one 12 (by kernel_rfl) rfl rfl ?_
                  refine sm_any rfl (s_store (new := (encOP ⟨(f x.peer).last + 1, (nextBase (f x.peer) x.now), ((f x.peer).waits ++ [(⟨x.now, (f x.peer).last + 1⟩ : BRow)])⟩)) ty70 rfl rfl rfl rfl rfl rfl rfl ?_)
                  refine m_done (by kernel_rfl) ?_
                  first | refine g_keep [0, 1, 5, 6, 7, 10, 11, 12] [8, 9] [8, 9] (keep_cons rfl (keep_cons rfl (keep_cons rfl (keep_cons rfl (keep_cons rfl (keep_cons rfl (keep_cons rfl (keep_cons rfl keep_nil)))))))) (lkeep_cons rfl (lkeep_cons rfl lkeep_nil)) (keep_cons rfl (keep_cons rfl keep_nil)) rfl ?_ | refine g_keep [0, 1, 5, 6, 7, 10, 11, 12] [8, 9] [8, 9] rfl rfl rfl rfl ?_
                  first | exact g_has ⟨h1, rfl, rfl, rfl, ⟨hO1, hs1, hab1, hs_H1, hhr1, hrm1, hsn⟩⟩
               ·
                refine ⟨_, rfl, .inl ⟨rfl, ?_⟩⟩
                refine sm_val (v_loadl ty3 rfl rfl rfl rfl) rfl rfl ?_
                refine m_take 8 false rfl rfl (by kernel_rfl) (by kernel_rfl) (by kernel_rfl) (fun _ _ _ _ h => h) (v_build (vs := [(0, _), (1, _)]) (zs := [(.int .i64 0), .nil0]) (cells := [_, _]) ty69 pl69 rfl rfl rfl) rfl rfl ?_
                refine m_all (is := [0, 2, 9]) (by kernel_rfl) rfl (fun _ _ _ => trivial) (fun i hi => ?_)
                rcases (by simpa using hi : i = 0 ∨ i = 2 ∨ i = 9) with rfl | rfl | rfl
                ·
                 refine ⟨_, rfl, .inl ⟨rfl, ?_⟩⟩
                 refine sm_lit0 ty70 ty69 rfl ?_
                 refine m_all (is := [2, 9]) (by kernel_rfl) rfl (fun _ _ _ => trivial) (fun i hi => ?_)
                 rcases (by simpa using hi : i = 2 ∨ i = 9) with rfl | rfl
                 ·
                  refine ⟨_, rfl, .inl ⟨rfl, ?_⟩⟩
                  refine sm_val (v_loadl ty70 rfl rfl rfl rfl) rfl rfl ?_
                  refine m_all (is := [3, 9]) (by kernel_rfl) rfl (fun _ _ _ => trivial) (fun i hi => ?_)
                  rcases (by simpa using hi : i = 3 ∨ i = 9) with rfl | rfl
                  ·
                   refine ⟨_, rfl, .inl ⟨rfl, ?_⟩⟩
                   refine sm_any rfl (s_append (l := []) (m := ((f x.peer).waits.map encW)) ty70 ty69 rfl rfl (Own.nil ..) rfl rfl (by refine Even.map _ ?_ _; intro _; rfl) (by intro x hx; obtain ⟨_, _, rfl⟩ := List.mem_map.1 hx; rfl) rfl (by simp; omega) (by simp; omega) ?_)
                   intro av104 G104 h104
                   rw [List.nil_append] at h104
                   refine m_one 9 (by kernel_rfl) rfl rfl ?_
                   refine sm_lit ty70 ty69 rfl rfl rfl rfl rfl rfl rfl ?_
                   refine m_one 10 (by kernel_rfl) rfl rfl ?_
                   refine sm_any rfl (s_append (l := ((f x.peer).waits.map encW)) (m := ([(⟨x.now, (f x.peer).last + 1⟩ : BRow)].map encW)) ty70 ty69 rfl rfl h104 rfl rfl (by refine Even.map _ ?_ _; intro _; rfl) (by intro x hx; obtain ⟨_, _, rfl⟩ := List.mem_map.1 hx; rfl) rfl (by simp; omega) (by simp; omega) ?_)
                   intro av111 G111 h111
                   rw [← List.map_append] at h111
                   refine g_freeze 111 rfl h111 ?_
                   refine m_takel 11 rfl rfl (by kernel_rfl) (by kernel_rfl) (by kernel_rfl) (fun _ _ _ _ h => h) (vl_fieldAddr ty72 fo72_2 ty70 rfl) rfl rfl ?_
                   refine m_one 12 (by kernel_rfl) rfl rfl ?_
                   refine sm_any rfl (s_store (new := (encOP ⟨(f x.peer).last + 1, (nextBase (f x.peer) x.now), ((f x.peer).waits ++ [(⟨x.now, (f x.peer).last + 1⟩ : BRow)])⟩)) ty70 rfl rfl rfl rfl rfl rfl rfl ?_)
                   refine m_done (by kernel_rfl) ?_
                   first | refine g_keep [0, 1, 5, 6, 7, 10, 11, 12] [8, 9] [8, 9] (keep_cons rfl (keep_cons rfl (keep_cons rfl (keep_cons rfl (keep_cons rfl (keep_cons rfl (keep_cons rfl (keep_cons rfl keep_nil)))))))) (lkeep_cons rfl (lkeep_cons rfl lkeep_nil)) (keep_cons rfl (keep_cons rfl keep_nil)) rfl ?_ | refine g_keep [0, 1, 5, 6, 7, 10, 11, 12] [8, 9] [8, 9] rfl rfl rfl rfl ?_
                   first | exact g_has ⟨h1, rfl, rfl, rfl, ⟨hO1, hs1, hab1, hs_H1, hhr1, hrm1, hsn⟩⟩
                  ·
                   refine ⟨_, rfl, .inl ⟨rfl, ?_⟩⟩
                   refine sm_lit ty70 ty69 rfl rfl rfl rfl rfl rfl rfl ?_
                   refine m_one 3 (by kernel_rfl) rfl rfl ?_
                   refine sm_any rfl (s_append (l := []) (m := ((f x.peer).waits.map encW)) ty70 ty69 rfl rfl (Own.nil ..) rfl rfl (by refine Even.map _ ?_ _; intro _; rfl) (by intro x hx; obtain ⟨_, _, rfl⟩ := List.mem_map.1 hx; rfl) rfl (by simp; omega) (by simp; omega) ?_)
                   intro av104 G104 h104
                   rw [List.nil_append] at h104
                   refine m_one 10 (by kernel_rfl) rfl rfl ?_
                   refine sm_any rfl (s_append (l := ((f x.peer).waits.map encW)) (m := ([(⟨x.now, (f x.peer).last + 1⟩ : BRow)].map encW)) ty70 ty69 rfl rfl h104 rfl rfl (by refine Even.map _ ?_ _; intro _; rfl) (by intro x hx; obtain ⟨_, _, rfl⟩ := List.mem_map.1 hx; rfl) rfl (by simp; omega) (by simp; omega) ?_)
                   intro av111 G111 h111
                   rw [← List.map_append] at h111
                   refine g_freeze 111 rfl h111 ?_
                   refine m_takel 11 rfl rfl (by kernel_rfl) (by kernel_rfl) (by kernel_rfl) (fun _ _ _ _ h => h) (vl_fieldAddr ty72 fo72_2 ty70 rfl) rfl rfl ?_
                   refine m_one 12 (by kernel_rfl) rfl rfl ?_
                   refine sm_any rfl (s_store (new := (encOP ⟨(f x.peer).last + 1, (nextBase (f x.peer) x.now), ((f x.peer).waits ++ [(⟨x.now, (f x.peer).last + 1⟩ : BRow)])⟩)) ty70 rfl rfl rfl rfl rfl rfl rfl ?_)
                   refine m_done (by kernel_rfl) ?_
                   first | refine g_keep [0, 1, 5, 6, 7, 10, 11, 12] [8, 9] [8, 9] (keep_cons rfl (keep_cons rfl (keep_cons rfl (keep_cons rfl (keep_cons rfl (keep_cons rfl (keep_cons rfl (keep_cons rfl keep_nil)))))))) (lkeep_cons rfl (lkeep_cons rfl lkeep_nil)) (keep_cons rfl (keep_cons rfl keep_nil)) rfl ?_ | refine g_keep [0, 1, 5, 6, 7, 10, 11, 12] [8, 9] [8, 9] rfl rfl rfl rfl ?_
                   first | exact g_has ⟨h1, rfl, rfl, rfl, ⟨hO1, hs1, hab1, hs_H1, hhr1, hrm1, hsn⟩⟩
                 ·
                  refine ⟨_, rfl, .inl ⟨rfl, ?_⟩⟩
                  refine sm_lit ty70 ty69 rfl rfl rfl rfl rfl rfl rfl ?_
                  refine m_one 2 (by kernel_rfl) rfl rfl ?_
                  refine sm_val (v_loadl ty70 rfl rfl rfl rfl) rfl rfl ?_
                  refine m_one 3 (by kernel_rfl) rfl rfl ?_
                  refine sm_any rfl (s_append (l := []) (m := ((f x.peer).waits.map encW)) ty70 ty69 rfl rfl (Own.nil ..) rfl rfl (by refine Even.map _ ?_ _; intro _; rfl) (by intro x hx; obtain ⟨_, _, rfl⟩ := List.mem_map.1 hx; rfl) rfl (by simp; omega) (by simp; omega) ?_)
                  intro av104 G104 h104
                  rw [List.nil_append] at h104
                  refine m_one 10 (by kernel_rfl) rfl rfl ?_
                  refine sm_any rfl (s_append (l := ((f x.peer).waits.map encW)) (m := ([(⟨x.now, (f x.peer).last + 1⟩ : BRow)].map encW)) ty70 ty69 rfl rfl h104 rfl rfl (by refine Even.map _ ?_ _; intro _; rfl) (by intro x hx; obtain ⟨_, _, rfl⟩ := List.mem_map.1 hx; rfl) rfl (by simp; omega) (by simp; omega) ?_)
                  intro av111 G111 h111
                  rw [← List.map_append] at h111
                  refine g_freeze 111 rfl h111 ?_
                  refine m_takel 11 rfl rfl (by kernel_rfl) (by kernel_rfl) (by kernel_rfl) (fun _ _ _ _ h => h) (vl_fieldAddr ty72 fo72_2 ty70 rfl) rfl rfl ?_
                  refine m_one 12 (by kernel_rfl) rfl rfl ?_
                  refine sm_any rfl (s_store (new := (encOP ⟨(f x.peer).last + 1, (nextBase (f x.peer) x.now), ((f x.peer).waits ++ [(⟨x.now, (f x.peer).last + 1⟩ : BRow)])⟩)) ty70 rfl rfl rfl rfl rfl rfl rfl ?_)
                  refine m_done (by kernel_rfl) ?_
                  first | refine g_keep [0, 1, 5, 6, 7, 10, 11, 12] [8, 9] [8, 9] (keep_cons rfl (keep_cons rfl (keep_cons rfl (keep_cons rfl (keep_cons rfl (keep_cons rfl (keep_cons rfl (keep_cons rfl keep_nil)))))))) (lkeep_cons rfl (lkeep_cons rfl lkeep_nil)) (keep_cons rfl (keep_cons rfl keep_nil)) rfl ?_ | refine g_keep [0, 1, 5, 6, 7, 10, 11, 12] [8, 9] [8, 9] rfl rfl rfl rfl ?_
                  first | exact g_has ⟨h1, rfl, rfl, rfl, ⟨hO1, hs1, hab1, hs_H1, hhr1, hrm1, hsn⟩⟩
                ·
                 refine ⟨_, rfl, .inl ⟨rfl, ?_⟩⟩
                 refine sm_val (v_loadl ty70 rfl rfl rfl rfl) rfl rfl ?_
                 refine m_all (is := [0, 9]) (by kernel_rfl) rfl (fun _ _ _ => trivial) (fun i hi => ?_)
                 rcases (by simpa using hi : i = 0 ∨ i = 9) with rfl | rfl
                 ·
                  refine ⟨_, rfl, .inl ⟨rfl, ?_⟩⟩
                  refine sm_lit0 ty70 ty69 rfl ?_
                  refine m_all (is := [3, 9]) (by kernel_rfl) rfl (fun _ _ _ => trivial) (fun i hi => ?_)
                  rcases (by simpa using hi : i = 3 ∨ i = 9) with rfl | rfl
                  ·
                   refine ⟨_, rfl, .inl ⟨rfl, ?_⟩⟩
                   refine sm_any rfl (s_append (l := []) (m := ((f x.peer).waits.map encW)) ty70 ty69 rfl rfl (Own.nil ..) rfl rfl (by refine Even.map _ ?_ _; intro _; rfl) (by intro x hx; obtain ⟨_, _, rfl⟩ := List.mem_map.1 hx; rfl) rfl (by simp; omega) (by simp; omega) ?_)
                   intro av104 G104 h104
                   rw [List.nil_append] at h104
                   refine m_one 9 (by kernel_rfl) rfl rfl ?_
                   refine sm_lit ty70 ty69 rfl rfl rfl rfl rfl rfl rfl ?_
                   refine m_one 10 (by kernel_rfl) rfl rfl ?_
                   refine sm_any rfl (s_append (l := ((f x.peer).waits.map encW)) (m := ([(⟨x.now, (f x.peer).last + 1⟩ : BRow)].map encW)) ty70 ty69 rfl rfl h104 rfl rfl (by refine Even.map _ ?_ _; intro _; rfl) (by intro x hx; obtain ⟨_, _, rfl⟩ := List.mem_map.1 hx; rfl) rfl (by simp; omega) (by simp; omega) ?_)
                   intro av111 G111 h111
                   rw [← List.map_append] at h111
                   refine g_freeze 111 rfl h111 ?_
                   refine m_takel 11 rfl rfl (by kernel_rfl) (by kernel_rfl) (by kernel_rfl) (fun _ _ _ _ h => h) (vl_fieldAddr ty72 fo72_2 ty70 rfl) rfl rfl ?_
                   refine m_one 12 (by kernel_rfl) rfl rfl ?_
                   refine sm_any rfl (s_store (new := (encOP ⟨(f x.peer).last + 1, (nextBase (f x.peer) x.now), ((f x.peer).waits ++ [(⟨x.now, (f x.peer).last + 1⟩ : BRow)])⟩)) ty70 rfl rfl rfl rfl rfl rfl rfl ?_)
                   refine m_done (by kernel_rfl) ?_
                   first | refine g_keep [0, 1, 5, 6, 7, 10, 11, 12] [8, 9] [8, 9] (keep_cons rfl (keep_cons rfl (keep_cons rfl (keep_cons rfl (keep_cons rfl (keep_cons rfl (keep_cons rfl (keep_cons rfl keep_nil)))))))) (lkeep_cons rfl (lkeep_cons rfl lkeep_nil)) (keep_cons rfl (keep_cons rfl keep_nil)) rfl ?_ | refine g_keep [0, 1, 5, 6, 7, 10, 11, 12] [8, 9] [8, 9] rfl rfl rfl rfl ?_
                   first | exact g_has ⟨h1, rfl, rfl, rfl, ⟨hO1, hs1, hab1, hs_H1, hhr1, hrm1, hsn⟩⟩
                  ·
                   refine ⟨_, rfl, .inl ⟨rfl, ?_⟩⟩
                   refine sm_lit ty70 ty69 rfl rfl rfl rfl rfl rfl rfl ?_
                   refine m_one 3 (by kernel_rfl) rfl rfl ?_
                   refine sm_any rfl (s_append (l := []) (m := ((f x.peer).waits.map encW)) ty70 ty69 rfl rfl (Own.nil ..) rfl rfl (by refine Even.map _ ?_ _; intro _; rfl) (by intro x hx; obtain ⟨_, _, rfl⟩ := List.mem_map.1 hx; rfl) rfl (by simp; omega) (by simp; omega) ?_)
                   intro av104 G104 h104
                   rw [List.nil_append] at h104
                   refine m_one 10 (by kernel_rfl) rfl rfl ?_
                   refine sm_any rfl (s_append (l := ((f x.peer).waits.map encW)) (m := ([(⟨x.now, (f x.peer).last + 1⟩ : BRow)].map encW)) ty70 ty69 rfl rfl h104 rfl rfl (by refine Even.map _ ?_ _; intro _; rfl) (by intro x hx; obtain ⟨_, _, rfl⟩ := List.mem_map.1 hx; rfl) rfl (by simp; omega) (by simp; omega) ?_)
                   intro av111 G111 h111
                   rw [← List.map_append] at h111
                   refine g_freeze 111 rfl h111 ?_
                   refine m_takel 11 rfl rfl (by kernel_rfl) (by kernel_rfl) (by kernel_rfl) (fun _ _ _ _ h => h) (vl_fieldAddr ty72 fo72_2 ty70 rfl) rfl rfl ?_
                   refine m_one 12 (by kernel_rfl) rfl rfl ?_
                   refine sm_any rfl (s_store (new := (encOP ⟨(f x.peer).last + 1, (nextBase (f x.peer) x.now), ((f x.peer).waits ++ [(⟨x.now, (f x.peer).last + 1⟩ : BRow)])⟩)) ty70 rfl rfl rfl rfl rfl rfl rfl ?_)
                   refine m_done (by kernel_rfl) ?_
                   first | refine g_keep [0, 1, 5, 6, 7, 10, 11, 12] [8, 9] [8, 9] (keep_cons rfl (keep_cons rfl (keep_cons rfl (keep_cons rfl (keep_cons rfl (keep_cons rfl (keep_cons rfl (keep_cons rfl keep_nil)))))))) (lkeep_cons rfl (lkeep_cons rfl lkeep_nil)) (keep_cons rfl (keep_cons rfl keep_nil)) rfl ?_ | refine g_keep [0, 1, 5, 6, 7, 10, 11, 12] [8, 9] [8, 9] rfl rfl rfl rfl ?_
                   first | exact g_has ⟨h1, rfl, rfl, rfl, ⟨hO1, hs1, hab1, hs_H1, hhr1, hrm1, hsn⟩⟩
                 ·
                  refine ⟨_, rfl, .inl ⟨rfl, ?_⟩⟩
                  refine sm_lit ty70 ty69 rfl rfl rfl rfl rfl rfl rfl ?_
                  refine m_one 0 (by kernel_rfl) rfl rfl ?_
                  refine sm_lit0 ty70 ty69 rfl ?_
                  refine m_one 3 (by kernel_rfl) rfl rfl ?_
                  refine sm_any rfl (s_append (l := []) (m := ((f x.peer).waits.map encW)) ty70 ty69 rfl rfl (Own.nil ..) rfl rfl (by refine Even.map _ ?_ _; intro _; rfl) (by intro x hx; obtain ⟨_, _, rfl⟩ := List.mem_map.1 hx; rfl) rfl (by simp; omega) (by simp; omega) ?_)
                  intro av104 G104 h104
                  rw [List.nil_append] at h104
                  refine m_one 10 (by kernel_rfl) rfl rfl ?_
                  refine sm_any rfl (s_append (l := ((f x.peer).waits.map encW)) (m := ([(⟨x.now, (f x.peer).last + 1⟩ : BRow)].map encW)) ty70 ty69 rfl rfl h104 rfl rfl (by refine Even.map _ ?_ _; intro _; rfl) (by intro x hx; obtain ⟨_, _, rfl⟩ := List.mem_map.1 hx; rfl) rfl (by simp; omega) (by simp; omega) ?_)
                  intro av111 G111 h111
                  rw [← List.map_append] at h111
                  refine g_freeze 111 rfl h111 ?_
                  refine m_takel 11 rfl rfl (by kernel_rfl) (by kernel_rfl) (by kernel_rfl) (fun _ _ _ _ h => h) (vl_fieldAddr ty72 fo72_2 ty70 rfl) rfl rfl ?_
                  refine m_one 12 (by kernel_rfl) rfl rfl ?_
                  refine sm_any rfl (s_store (new := (encOP ⟨(f x.peer).last + 1, (nextBase (f x.peer) x.now), ((f x.peer).waits ++ [(⟨x.now, (f x.peer).last + 1⟩ : BRow)])⟩)) ty70 rfl rfl rfl rfl rfl rfl rfl ?_)
                  refine m_done (by kernel_rfl) ?_
                  first | refine g_keep [0, 1, 5, 6, 7, 10, 11, 12] [8, 9] [8, 9] (keep_cons rfl (keep_cons rfl (keep_cons rfl (keep_cons rfl (keep_cons rfl (keep_cons rfl (keep_cons rfl (keep_cons rfl keep_nil)))))))) (lkeep_cons rfl (lkeep_cons rfl lkeep_nil)) (keep_cons rfl (keep_cons rfl keep_nil)) rfl ?_ | refine g_keep [0, 1, 5, 6, 7, 10, 11, 12] [8, 9] [8, 9] rfl rfl rfl rfl ?_
                  first | exact g_has ⟨h1, rfl, rfl, rfl, ⟨hO1, hs1, hab1, hs_H1, hhr1, hrm1, hsn⟩⟩
                ·
                 refine ⟨_, rfl, .inl ⟨rfl, ?_⟩⟩
                 refine sm_lit ty70 ty69 rfl rfl rfl rfl rfl rfl rfl ?_
                 refine m_all (is := [0, 2]) (by kernel_rfl) rfl (fun _ _ _ => trivial) (fun i hi => ?_)
                 rcases (by simpa using hi : i = 0 ∨ i = 2) with rfl | rfl
                 ·
                  refine ⟨_, rfl, .inl ⟨rfl, ?_⟩⟩
                  refine sm_lit0 ty70 ty69 rfl ?_
                  refine m_one 2 (by kernel_rfl) rfl rfl ?_
                  refine sm_val (v_loadl ty70 rfl rfl rfl rfl) rfl rfl ?_
                  refine m_one 3 (by kernel_rfl) rfl rfl ?_
                  refine sm_any rfl (s_append (l := []) (m := ((f x.peer).waits.map encW)) ty70 ty69 rfl rfl (Own.nil ..) rfl rfl (by refine Even.map _ ?_ _; intro _; rfl) (by intro x hx; obtain ⟨_, _, rfl⟩ := List.mem_map.1 hx; rfl) rfl (by simp; omega) (by simp; omega) ?_)
                  intro av104 G104 h104
                  rw [List.nil_append] at h104
                  refine m_one 10 (by kernel_rfl) rfl rfl ?_
                  refine sm_any rfl (s_append (l := ((f x.peer).waits.map encW)) (m := ([(⟨x.now, (f x.peer).last + 1⟩ : BRow)].map encW)) ty70 ty69 rfl rfl h104 rfl rfl (by refine Even.map _ ?_ _; intro _; rfl) (by intro x hx; obtain ⟨_, _, rfl⟩ := List.mem_map.1 hx; rfl) rfl (by simp; omega) (by simp; omega) ?_)
                  intro av111 G111 h111
                  rw [← List.map_append] at h111
                  refine g_freeze 111 rfl h111 ?_
                  refine m_takel 11 rfl rfl (by kernel_rfl) (by kernel_rfl) (by kernel_rfl) (fun _ _ _ _ h => h) (vl_fieldAddr ty72 fo72_2 ty70 rfl) rfl rfl ?_
                  refine m_one 12 (by kernel_rfl) rfl rfl ?_
                  refine sm_any rfl (s_store (new := (encOP ⟨(f x.peer).last + 1, (nextBase (f x.peer) x.now), ((f x.peer).waits ++ [(⟨x.now, (f x.peer).last + 1⟩ : BRow)])⟩)) ty70 rfl rfl rfl rfl rfl rfl rfl ?_)
                  refine m_done (by kernel_rfl) ?_
                  first | refine g_keep [0, 1, 5, 6, 7, 10, 11, 12] [8, 9] [8, 9] (keep_cons rfl (keep_cons rfl (keep_cons rfl (keep_cons rfl (keep_cons rfl (keep_cons rfl (keep_cons rfl (keep_cons rfl keep_nil)))))))) (lkeep_cons rfl (lkeep_cons rfl lkeep_nil)) (keep_cons rfl (keep_cons rfl keep_nil)) rfl ?_ | refine g_keep [0, 1, 5, 6, 7, 10, 11, 12] [8, 9] [8, 9] rfl rfl rfl rfl ?_
                  first | exact g_has ⟨h1, rfl, rfl, rfl, ⟨hO1, hs1, hab1, hs_H1, hhr1, hrm1, hsn⟩⟩
                 ·
                  refine ⟨_, rfl, .inl ⟨rfl, ?_⟩⟩
                  refine sm_val (v_loadl ty70 rfl rfl rfl rfl) rfl rfl ?_
                  refine m_one 0 (by kernel_rfl) rfl rfl ?_
                  refine sm_lit0 ty70 ty69 rfl ?_
                  refine m_one 3 (by kernel_rfl) rfl rfl ?_
                  refine sm_any rfl (s_append (l := []) (m := ((f x.peer).waits.map encW)) ty70 ty69 rfl rfl (Own.nil ..) rfl rfl (by refine Even.map _ ?_ _; intro _; rfl) (by intro x hx; obtain ⟨_, _, rfl⟩ := List.mem_map.1 hx; rfl) rfl (by simp; omega) (by simp; omega) ?_)
                  intro av104 G104 h104
                  rw [List.nil_append] at h104
                  refine m_one 10 (by kernel_rfl) rfl rfl ?_
                  refine sm_any rfl (s_append (l := ((f x.peer).waits.map encW)) (m := ([(⟨x.now, (f x.peer).last + 1⟩ : BRow)].map encW)) ty70 ty69 rfl rfl h104 rfl rfl (by refine Even.map _ ?_ _; intro _; rfl) (by intro x hx; obtain ⟨_, _, rfl⟩ := List.mem_map.1 hx; rfl) rfl (by simp; omega) (by simp; omega) ?_)
                  intro av111 G111 h111
                  rw [← List.map_append] at h111
                  refine g_freeze 111 rfl h111 ?_
                  refine m_takel 11 rfl rfl (by kernel_rfl) (by kernel_rfl) (by kernel_rfl) (fun _ _ _ _ h => h) (vl_fieldAddr ty72 fo72_2 ty70 rfl) rfl rfl ?_
                  refine m_one 12 (by kernel_rfl) rfl rfl ?_
                  refine sm_any rfl (s_store (new := (encOP ⟨(f x.peer).last + 1, (nextBase (f x.peer) x.now), ((f x.peer).waits ++ [(⟨x.now, (f x.peer).last + 1⟩ : BRow)])⟩)) ty70 rfl rfl rfl rfl rfl rfl rfl ?_)
                  refine m_done (by kernel_rfl) ?_
                  first | refine g_keep [0, 1, 5, 6, 7, 10, 11, 12] [8, 9] [8, 9] (keep_cons rfl (keep_cons rfl (keep_cons rfl (keep_cons rfl (keep_cons rfl (keep_cons rfl (keep_cons rfl (keep_cons rfl keep_nil)))))))) (lkeep_cons rfl (lkeep_cons rfl lkeep_nil)) (keep_cons rfl (keep_cons rfl keep_nil)) rfl ?_ | refine g_keep [0, 1, 5, 6, 7, 10, 11, 12] [8, 9] [8, 9] rfl rfl rfl rfl ?_
                  first | exact g_has ⟨h1, rfl, rfl, rfl, ⟨hO1, hs1, hab1, hs_H1, hhr1, hrm1, hsn⟩⟩
             ·
              obtain ⟨h1, rfl, rfl, rfl, hO1, hs1, hab1, hs_H1, hhr1, hrm1, hsn⟩ := hI
              have hwl1 : ((f x.peer).waits ++ [(⟨x.now, (f x.peer).last + 1⟩ : BRow)]).length = (f x.peer).waits.length + 1 := by simp
              refine g_cut (fun env L B G => ∃ (ws : List BRow) (h1 : AHeap), env = [(0, .int .i64 life), (1, .imm (l.map encOA)), (5, .box p 0), (6, .own r30 4 0 2), (7, .int .i64 (k : Int)), (10, .int .i64 ((f x.peer).last + 1)), (11, .int .i64 (nextBase (f x.peer) x.now).epoch), (12, (encRs (nextBase (f x.peer) x.now).recs))] ∧ L = [(8, 8, 0), (9, 9, 0)] ∧ B = [(8, (encOA x)), (9, (encOP ⟨(f x.peer).last + 1, (nextBase (f x.peer) x.now), ws⟩))] ∧ ws = lastFour ((f x.peer).waits ++ [(⟨x.now, (f x.peer).last + 1⟩ : BRow)]) ∧ OutIs h1 p r life (upd f x.peer (nextF (f x.peer) x.now)) ∧ h1.sub G ∧ (∀ b, h1 b ≠ none → w0.heap.size ≤ b) ∧ H.sub G ∧ h1 r30 = none ∧ G r30 = some (.row 4 ([f 0, f 1].map encOP)) ∧ srt x.now = true) ?_ (fun env L B G hI => ?_)
              ·
               refine g_seq (fun K30 hK30 => ?_)
               refine g_region ?_
               refine g_step rfl (s_fieldAddr ty72 fo72_2 ty70 rfl rfl ?_)
               refine g_step rfl (s_val (v_loadl ty70 rfl rfl rfl rfl) rfl rfl ?_)
               refine g_step rfl (s_val (v_len ty70 rfl (by first | rfl | assumption) (by first | exact List.length_map .. | rfl)) rfl rfl ?_)
               refine g_step rfl (s_val (v_gtr rfl rfl) rfl rfl ?_)
               refine g_nil ?_
               refine g_next hK30 ?_
               refine g_cond rfl (fun hc116 => ?_) (fun hc116 => ?_)
               ·
                try simp only [decide_eq_true_eq, decide_eq_false_iff_not, Bool.not_eq_true', Bool.not_eq_false', Bool.not_eq_eq_eq_not, Bool.not_true, Bool.not_false, Bool.and_eq_true, Bool.or_eq_true, Bool.or_eq_false_iff, beq_iff_eq, beq_eq_false_iff_ne, ne_eq, Int.not_lt, Int.not_le, Decidable.not_not] at hc116
                refine g_region ?_
                refine g_step rfl (s_fieldAddr ty72 fo72_2 ty70 rfl rfl ?_)
                refine g_step rfl (s_val (v_loadl ty70 rfl rfl rfl rfl) rfl rfl ?_)
                refine g_step rfl (s_val (v_slice_imm (lo := 1) (hi := ((f x.peer).waits ++ [(⟨x.now, (f x.peer).last + 1⟩ : BRow)]).length) (m := ((((f x.peer).waits ++ [(⟨x.now, (f x.peer).last + 1⟩ : BRow)]).drop 1).map encW)) ty70 ty69 rfl rfl rfl (by first | rfl | (exact (rfl : (0 : Int) = ((0 : Nat) : Int))) | omega | (simp <;> omega)) (by simp) (by omega) (by simp) (by refine Even.map _ ?_ _; intro _; rfl) (by rw [List.take_of_length_le (by simp), ← List.map_drop])) rfl rfl ?_)
                refine g_step rfl (s_fieldAddr ty72 fo72_2 ty70 rfl rfl ?_)
                refine g_step rfl (s_store (new := (encOP ⟨(f x.peer).last + 1, (nextBase (f x.peer) x.now), ((f x.peer).waits ++ [(⟨x.now, (f x.peer).last + 1⟩ : BRow)]).drop 1⟩)) ty70 rfl rfl rfl rfl rfl rfl rfl ?_)
                refine g_nil ?_
                first | refine g_keep [0, 1, 5, 6, 7, 10, 11, 12] [8, 9] [8, 9] (keep_cons rfl (keep_cons rfl (keep_cons rfl (keep_cons rfl (keep_cons rfl (keep_cons rfl (keep_cons rfl (keep_cons rfl keep_nil)))))))) (lkeep_cons rfl (lkeep_cons rfl lkeep_nil)) (keep_cons rfl (keep_cons rfl keep_nil)) rfl ?_ | refine g_keep [0, 1, 5, 6, 7, 10, 11, 12] [8, 9] [8, 9] rfl rfl rfl rfl ?_
                first | exact g_has ⟨((f x.peer).waits ++ [(⟨x.now, (f x.peer).last + 1⟩ : BRow)]), h1, rfl, rfl, rfl, ⟨by rw [lastFour, if_neg (by omega)], hO1, hs1, hab1, hs_H1, hhr1, hrm1, hsn⟩⟩ | exact g_has ⟨((f x.peer).waits ++ [(⟨x.now, (f x.peer).last + 1⟩ : BRow)]).drop 1, h1, rfl, rfl, rfl, ⟨by rw [lastFour, if_pos (by omega)], hO1, hs1, hab1, hs_H1, hhr1, hrm1, hsn⟩⟩
               ·
                try simp only [decide_eq_true_eq, decide_eq_false_iff_not, Bool.not_eq_true', Bool.not_eq_false', Bool.not_eq_eq_eq_not, Bool.not_true, Bool.not_false, Bool.and_eq_true, Bool.or_eq_true, Bool.or_eq_false_iff, beq_iff_eq, beq_eq_false_iff_ne, ne_eq, Int.not_lt, Int.not_le, Decidable.not_not] at hc116
                refine g_skip ?_
                first | refine g_keep [0, 1, 5, 6, 7, 10, 11, 12] [8, 9] [8, 9] (keep_cons rfl (keep_cons rfl (keep_cons rfl (keep_cons rfl (keep_cons rfl (keep_cons rfl (keep_cons rfl (keep_cons rfl keep_nil)))))))) (lkeep_cons rfl (lkeep_cons rfl lkeep_nil)) (keep_cons rfl (keep_cons rfl keep_nil)) rfl ?_ | refine g_keep [0, 1, 5, 6, 7, 10, 11, 12] [8, 9] [8, 9] rfl rfl rfl rfl ?_
                first | exact g_has ⟨((f x.peer).waits ++ [(⟨x.now, (f x.peer).last + 1⟩ : BRow)]), h1, rfl, rfl, rfl, ⟨by rw [lastFour, if_neg (by omega)], hO1, hs1, hab1, hs_H1, hhr1, hrm1, hsn⟩⟩ | exact g_has ⟨((f x.peer).waits ++ [(⟨x.now, (f x.peer).last + 1⟩ : BRow)]).drop 1, h1, rfl, rfl, rfl, ⟨by rw [lastFour, if_pos (by omega)], hO1, hs1, hab1, hs_H1, hhr1, hrm1, hsn⟩⟩
              ·
               obtain ⟨ws, h1, rfl, rfl, rfl, hws, hO1, hs1, hab1, hs_H1, hhr1, hrm1, hsn⟩ := hI
               subst hws
               refine g_seq (fun K31 hK31 => ?_)
               refine g_region ?_
               refine g_step rfl (s_val (v_move rfl) rfl rfl ?_)
               refine g_step rfl (s_fieldAddr ty72 fo72_0 ty3 rfl rfl ?_)
               refine g_step rfl (s_val (v_loadl ty3 rfl rfl rfl rfl) rfl rfl ?_)
               refine g_step rfl (s_val (v_neq rfl rfl) rfl rfl ?_)
               refine g_step rfl (s_val (v_move rfl) rfl rfl ?_)
               refine g_split 125 rfl (fun hg125 => ?_) (fun hg125 => ?_)
               · exfalso; (try simp only [decide_eq_true_eq, decide_eq_false_iff_not, Bool.not_eq_true', Bool.not_eq_false', Bool.not_eq_eq_eq_not, Bool.not_true, Bool.not_false, Bool.and_eq_true, Bool.or_eq_true, Bool.or_eq_false_iff, beq_iff_eq, beq_eq_false_iff_ne, ne_eq, Int.not_lt, Int.not_le, Decidable.not_not] at hg125); first | exact hg125 rfl | simp at hg125
               ·
                try simp only [decide_eq_true_eq, decide_eq_false_iff_not, Bool.not_eq_true', Bool.not_eq_false', Bool.not_eq_eq_eq_not, Bool.not_true, Bool.not_false, Bool.and_eq_true, Bool.or_eq_true, Bool.or_eq_false_iff, beq_iff_eq, beq_eq_false_iff_ne, ne_eq, Int.not_lt, Int.not_le, Decidable.not_not] at hg125
                refine g_step_yes (j := 4) (t := 125) rfl rfl rfl rfl (s_val (v_move rfl) rfl rfl ?_)
                refine g_step_yes (j := 4) (t := 125) rfl rfl rfl rfl (s_fieldAddr ty72 fo72_1 ty69 rfl rfl ?_)
                refine g_step_yes (j := 4) (t := 125) rfl rfl rfl rfl (s_fieldAddr ty69 fo69_0 ty3 rfl rfl ?_)
                refine g_step_yes (j := 4) (t := 125) rfl rfl rfl rfl (s_val (v_loadl ty3 rfl rfl rfl rfl) rfl rfl ?_)
                refine g_step_yes (j := 4) (t := 125) rfl rfl rfl rfl (s_val (v_neq rfl rfl) rfl rfl ?_)
                refine g_step rfl (s_val (v_pick_f rfl rfl) rfl rfl ?_)
                refine g_step rfl (s_val (v_move rfl) rfl rfl ?_)
                refine g_split 132 rfl (fun hg132 => ?_) (fun hg132 => ?_)
                · exfalso; (try simp only [decide_eq_true_eq, decide_eq_false_iff_not, Bool.not_eq_true', Bool.not_eq_false', Bool.not_eq_eq_eq_not, Bool.not_true, Bool.not_false, Bool.and_eq_true, Bool.or_eq_true, Bool.or_eq_false_iff, beq_iff_eq, beq_eq_false_iff_ne, ne_eq, Int.not_lt, Int.not_le, Decidable.not_not] at hg132); first | exact hg132 rfl | simp at hg132
                ·
                 try simp only [decide_eq_true_eq, decide_eq_false_iff_not, Bool.not_eq_true', Bool.not_eq_false', Bool.not_eq_eq_eq_not, Bool.not_true, Bool.not_false, Bool.and_eq_true, Bool.or_eq_true, Bool.or_eq_false_iff, beq_iff_eq, beq_eq_false_iff_ne, ne_eq, Int.not_lt, Int.not_le, Decidable.not_not] at hg132
                 refine g_step_yes (j := 11) (t := 132) rfl rfl rfl rfl (s_val (v_move rfl) rfl rfl ?_)
                 refine g_step_yes (j := 11) (t := 132) rfl rfl rfl rfl (s_fieldAddr ty72 fo72_1 ty69 rfl rfl ?_)
                 refine g_step_yes (j := 11) (t := 132) rfl rfl rfl rfl (s_fieldAddr ty69 fo69_1 ty64 rfl rfl ?_)
                 refine g_step_yes (j := 11) (t := 132) rfl rfl rfl rfl (s_val (v_loadl ty64 rfl rfl rfl rfl) rfl rfl ?_)
                 refine g_step_yes (j := 11) (t := 132) rfl rfl rfl rfl (s_callp rfl rfl rfl (allAlike_ok (nextBase (f x.peer) x.now).recs (nextBase (f x.peer) x.now).recs _ _ _ rfl rfl (Nat.le_trans (nextBase_ok (hSp.ok (by omega))).1 (by decide)) (nextBase_ok (hSp.ok (by omega))).2) ?_)
                 rintro _ rfl
                 rw [decide_eq_true rfl]
                 refine g_step_yes (j := 11) (t := 132) rfl rfl rfl rfl (s_val (v_not rfl) rfl rfl ?_)
                 refine g_step rfl (s_val (v_pick_f rfl rfl) rfl rfl ?_)
                 refine g_nil ?_
                 refine g_next hK31 ?_
                 refine g_cond rfl (fun hc139 => ?_) (fun hc139 => ?_)
                 · exfalso; (try simp only [decide_eq_true_eq, decide_eq_false_iff_not, Bool.not_eq_true', Bool.not_eq_false', Bool.not_eq_eq_eq_not, Bool.not_true, Bool.not_false, Bool.and_eq_true, Bool.or_eq_true, Bool.or_eq_false_iff, beq_iff_eq, beq_eq_false_iff_ne, ne_eq, Int.not_lt, Int.not_le, Decidable.not_not] at hc139); simp at hc139
                 ·
                  try simp only [decide_eq_true_eq, decide_eq_false_iff_not, Bool.not_eq_true', Bool.not_eq_false', Bool.not_eq_eq_eq_not, Bool.not_true, Bool.not_false, Bool.and_eq_true, Bool.or_eq_true, Bool.or_eq_false_iff, beq_iff_eq, beq_eq_false_iff_ne, ne_eq, Int.not_lt, Int.not_le, Decidable.not_not] at hc139
                  refine g_skip ?_
                  first | refine g_keep [0, 1, 5, 6, 7] [8, 9] [8, 9] (keep_cons rfl (keep_cons rfl (keep_cons rfl (keep_cons rfl (keep_cons rfl keep_nil))))) (lkeep_cons rfl (lkeep_cons rfl lkeep_nil)) (keep_cons rfl (keep_cons rfl keep_nil)) rfl ?_ | refine g_keep [0, 1, 5, 6, 7] [8, 9] [8, 9] rfl rfl rfl rfl ?_
                  first | exact g_has ⟨nextF (f x.peer) x.now, h1, j, rfl, rfl, rfl, ⟨hO1, hs1, hab1, hs_H1, hhr1, hrm1, hSp.next hn20 hns hsn, hj, hle⟩⟩ | exact g_has ⟨⟨(f x.peer).last, w, (f x.peer).waits.drop (i + 1)⟩, h1, j, rfl, rfl, rfl, ⟨hO1, hs1, hab1, hs_H1, hhr1, hrm1, hSw, hj, hle⟩⟩ | exact g_has ⟨⟨(f x.peer).last, b0, (f x.peer).waits⟩, h1, j, rfl, rfl, rfl, ⟨hO1, hs1, hab1, hs_H1, hhr1, hrm1, hSw, hj, hle⟩⟩ | exact g_has ⟨(f x.peer), h1, j, rfl, rfl, rfl, ⟨hO1, hs1, hab1, hs_H1, hhr1, hrm1, hSp.mono (Nat.le_succ k), hj, hle⟩⟩
         ·
          try simp only [decide_eq_true_eq, decide_eq_false_iff_not, Bool.not_eq_true', Bool.not_eq_false', Bool.not_eq_eq_eq_not, Bool.not_true, Bool.not_false, Bool.and_eq_true, Bool.or_eq_true, Bool.or_eq_false_iff, beq_iff_eq, beq_eq_false_iff_ne, ne_eq, Int.not_lt, Int.not_le, Decidable.not_not] at hc63
          refine g_seq (fun K32 hK32 => ?_)
          refine g_region ?_
          refine g_step rfl (s_fieldAddr ty66 fo66_0 ty3 rfl rfl ?_)
          refine g_step rfl (s_val (v_loadl ty3 rfl rfl rfl rfl) rfl rfl ?_)
          refine g_step rfl (s_val (v_eql rfl rfl) rfl rfl ?_)
          refine g_nil ?_
          refine g_next hK32 ?_
          refine g_cond rfl (fun hc142 => ?_) (fun hc142 => ?_)
          ·
           try simp only [decide_eq_true_eq, decide_eq_false_iff_not, Bool.not_eq_true', Bool.not_eq_false', Bool.not_eq_eq_eq_not, Bool.not_true, Bool.not_false, Bool.and_eq_true, Bool.or_eq_true, Bool.or_eq_false_iff, beq_iff_eq, beq_eq_false_iff_ne, ne_eq, Int.not_lt, Int.not_le, Decidable.not_not] at hc142
           refine g_seq (fun K33 hK33 => ?_)
           refine g_region ?_
           obtain ⟨G0, hG0⟩ : ∃ G0, G0 = G := ⟨_, rfl⟩
           have hs0 := hs
           have hs_H0 := hs_H
           have hrm0 := hrm
           rw [← hG0] at hs0 hs_H0 hrm0
           refine g_step rfl (s_val (v_assign rfl) rfl rfl ?_)
           refine g_nil ?_
           refine g_next hK33 ?_
           refine g_seq (fun K34 hK34 => ?_)
           refine g_seq (fun K35 hK35 => ?_)
           refine g_region ?_
           refine g_step rfl (s_val (v_assign rfl) rfl rfl ?_)
           refine g_nil ?_
           refine g_next hK35 ?_
           refine g_block ?_
           first | refine g_keep [0, 1, 5, 6, 7, 13, 14] [8, 9] [8, 9] (keep_cons rfl (keep_cons rfl (keep_cons rfl (keep_cons rfl (keep_cons rfl (keep_cons rfl (keep_cons rfl keep_nil))))))) (lkeep_cons rfl (lkeep_cons rfl lkeep_nil)) (keep_cons rfl (keep_cons rfl keep_nil)) rfl ?_ | refine g_keep [0, 1, 5, 6, 7, 13, 14] [8, 9] [8, 9] rfl rfl rfl rfl ?_
           refine g_loop (fun n env L B G => ∃ (i : Nat) (u : Int), i ≤ (f x.peer).waits.length ∧ n = (f x.peer).waits.length - i ∧ env = [(0, .int .i64 life), (1, .imm (l.map encOA)), (5, .box p 0), (6, .own r30 4 0 2), (7, .int .i64 (k : Int)), (13, .int .i64 u), (14, .int .i64 (i : Int))] ∧ L = [(8, 8, 0), (9, 9, 0)] ∧ B = [(8, (encOA x)), (9, (encOP (f x.peer)))] ∧ G0 = G ∧ AckU (f x.peer) (decide (x.life = life)) x.epoch i u) ((f x.peer).waits.length) ⟨0, -1, Nat.zero_le _, rfl, rfl, rfl, rfl, hG0, AckU.zero _ _ _⟩ (fun n env L B G hI => ?_)
           obtain ⟨i, u, hi, rfl, rfl, rfl, rfl, rfl, hu⟩ := hI
           refine g_seq (fun K36 hK36 => ?_)
           refine g_seq (fun K37 hK37 => ?_)
           refine g_region ?_
           refine g_step rfl (s_val (v_move rfl) rfl rfl ?_)
           refine g_step rfl (s_fieldAddr ty72 fo72_2 ty70 rfl rfl ?_)
           refine g_step rfl (s_val (v_loadl ty70 rfl rfl rfl rfl) rfl rfl ?_)
           refine g_step rfl (s_val (v_len ty70 rfl (by first | rfl | assumption) (by first | exact List.length_map .. | rfl)) rfl rfl ?_)
           refine g_step rfl (s_val (v_lss rfl rfl) rfl rfl ?_)
           refine g_nil ?_
           refine g_next hK37 ?_
           refine g_cond rfl (fun hc147 => ?_) (fun hc147 => ?_)
           ·
            try simp only [decide_eq_true_eq, decide_eq_false_iff_not, Bool.not_eq_true', Bool.not_eq_false', Bool.not_eq_eq_eq_not, Bool.not_true, Bool.not_false, Bool.and_eq_true, Bool.or_eq_true, Bool.or_eq_false_iff, beq_iff_eq, beq_eq_false_iff_ne, ne_eq, Int.not_lt, Int.not_le, Decidable.not_not] at hc147
            obtain ⟨w, hw⟩ := get_some (l := (f x.peer).waits) (k := i) (by omega)
            refine g_skip ?_
            refine g_next hK36 ?_
            refine g_seq (fun K38 hK38 => ?_)
            refine g_block ?_
            refine g_seq (fun K39 hK39 => ?_)
            refine g_draw (n := 15) (fun j => !([] : List Nat).contains j) rfl rfl ?_
            refine m_takel 0 rfl rfl (by kernel_rfl) (by kernel_rfl) (by kernel_rfl) (fun _ _ _ _ h => h) (vl_fieldAddr ty72 fo72_2 ty70 rfl) rfl rfl ?_
            refine m_take 1 true rfl rfl (by kernel_rfl) (by kernel_rfl) (by kernel_rfl) (fun _ _ _ _ h => h) (v_loadl ty70 rfl rfl rfl rfl) rfl rfl ?_
            refine m_take 2 false rfl rfl (by kernel_rfl) (by kernel_rfl) (by kernel_rfl) (fun _ _ _ _ h => h) (v_move rfl) rfl rfl ?_
            refine m_take 3 false rfl rfl (by kernel_rfl) (by kernel_rfl) (by kernel_rfl) (fun _ _ _ _ h => h) (v_indexAddr ty70 ty69 rfl rfl (by first | rfl | assumption) (by first | rfl | exact (rfl : (0 : Int) = ((0 : Nat) : Int)) | exact (Int.toNat_of_nonneg (by omega)).symm) (by first | assumption | exact map_get (by assumption) | rfl) rfl) rfl rfl ?_
            refine m_take 4 false rfl rfl (by kernel_rfl) (by kernel_rfl) (by kernel_rfl) (fun _ _ _ _ h => h) (by first | exact v_fieldAddr ty69 fo69_0 ty3 rfl | exact v_fieldAddr_box ty69 fo69_0 ty3 rfl) rfl rfl ?_
            refine m_take 5 true rfl rfl (by kernel_rfl) (by kernel_rfl) (by kernel_rfl) (fun _ _ _ _ h => h) (by first | exact v_load ty3 rfl rfl (by first | rfl | assumption) (by first | assumption | exact map_get (by assumption) | rfl) rfl | exact v_load_box ty3 rfl rfl (by assumption) rfl) rfl rfl ?_
            refine m_takel 6 rfl rfl (by kernel_rfl) (by kernel_rfl) (by kernel_rfl) (fun _ _ _ _ h => h) (vl_fieldAddr ty66 fo66_3 ty3 rfl) rfl rfl ?_
            refine m_take 7 true rfl rfl (by kernel_rfl) (by kernel_rfl) (by kernel_rfl) (fun _ _ _ _ h => h) (v_loadl ty3 rfl rfl rfl rfl) rfl rfl ?_
            refine m_take 8 false rfl rfl (by kernel_rfl) (by kernel_rfl) (by kernel_rfl) (fun _ _ _ _ h => h) (v_eql rfl rfl) rfl rfl ?_
            refine m_take 9 false rfl rfl (by kernel_rfl) (by kernel_rfl) (by kernel_rfl) (fun _ _ _ _ h => h) (v_move rfl) rfl rfl ?_
            refine m_split 159 rfl (fun hg159 => ?_) (fun hg159 => ?_)
            ·
             try simp only [decide_eq_true_eq, decide_eq_false_iff_not, Bool.not_eq_true', Bool.not_eq_false', Bool.not_eq_eq_eq_not, Bool.not_true, Bool.not_false, Bool.and_eq_true, Bool.or_eq_true, Bool.or_eq_false_iff, beq_iff_eq, beq_eq_false_iff_ne, ne_eq, Int.not_lt, Int.not_le, Decidable.not_not] at hg159
             refine m_takel_yes (j := 9) (t := 159) 10 rfl rfl rfl rfl rfl (by kernel_rfl) (by kernel_rfl) (by kernel_rfl) (fun _ _ _ _ h => h) (vl_fieldAddr ty66 fo66_2 ty3 rfl) rfl rfl ?_
             refine m_take_yes (j := 9) (t := 159) 11 true rfl rfl rfl rfl rfl (by kernel_rfl) (by kernel_rfl) (by kernel_rfl) (fun _ _ _ _ h => h) (v_loadl ty3 rfl rfl rfl rfl) rfl rfl ?_
             refine m_take_yes (j := 9) (t := 159) 12 false rfl rfl rfl rfl rfl (by kernel_rfl) (by kernel_rfl) (by kernel_rfl) (fun _ _ _ _ h => h) (v_move rfl) rfl rfl ?_
             refine m_take_yes (j := 9) (t := 159) 13 false rfl rfl rfl rfl rfl (by kernel_rfl) (by kernel_rfl) (by kernel_rfl) (fun _ _ _ _ h => h) (v_eql rfl rfl) rfl rfl ?_
             refine m_take 14 false rfl rfl (by kernel_rfl) (by kernel_rfl) (by kernel_rfl) (fun _ _ _ _ h => h) (v_pick_t rfl rfl) rfl rfl ?_
             refine m_done (by kernel_rfl) ?_
             refine g_next hK39 ?_
             refine g_cond rfl (fun hc164 => ?_) (fun hc164 => ?_)
             ·
              try simp only [decide_eq_true_eq, decide_eq_false_iff_not, Bool.not_eq_true', Bool.not_eq_false', Bool.not_eq_eq_eq_not, Bool.not_true, Bool.not_false, Bool.and_eq_true, Bool.or_eq_true, Bool.or_eq_false_iff, beq_iff_eq, beq_eq_false_iff_ne, ne_eq, Int.not_lt, Int.not_le, Decidable.not_not] at hc164
              refine g_region ?_
              refine g_step rfl (s_val (v_move rfl) rfl rfl ?_)
              refine g_step rfl (s_val (v_assign rfl) rfl rfl ?_)
              refine g_nil ?_
              refine g_block_normal ?_
              refine g_next hK38 ?_
              refine g_region ?_
              refine g_step rfl (s_val (v_move rfl) rfl rfl ?_)
              refine g_step rfl (s_val (v_add rfl rfl (by omega)) rfl rfl ?_)
              refine g_step rfl (s_val (v_assign rfl) rfl rfl ?_)
              refine g_nil ?_
              first | refine g_keep [0, 1, 5, 6, 7, 13, 14] [8, 9] [8, 9] (keep_cons rfl (keep_cons rfl (keep_cons rfl (keep_cons rfl (keep_cons rfl (keep_cons rfl (keep_cons rfl keep_nil))))))) (lkeep_cons rfl (lkeep_cons rfl lkeep_nil)) (keep_cons rfl (keep_cons rfl keep_nil)) rfl ?_ | refine g_keep [0, 1, 5, 6, 7, 13, 14] [8, 9] [8, 9] rfl rfl rfl rfl ?_
              first | exact g_round _ (by omega) ⟨i + 1, (i : Int), by omega, rfl, rfl, rfl, rfl, rfl, AckU.hit hw hg159 (decide_eq_true hc164)⟩ | exact g_round _ (by omega) ⟨i + 1, u, by omega, rfl, rfl, rfl, rfl, rfl, AckU.miss hu hw (by rintro ⟨h1, h2⟩; first | exact hg159 h1 | exact hc164 (of_decide_eq_true h2))⟩
             ·
              try simp only [decide_eq_true_eq, decide_eq_false_iff_not, Bool.not_eq_true', Bool.not_eq_false', Bool.not_eq_eq_eq_not, Bool.not_true, Bool.not_false, Bool.and_eq_true, Bool.or_eq_true, Bool.or_eq_false_iff, beq_iff_eq, beq_eq_false_iff_ne, ne_eq, Int.not_lt, Int.not_le, Decidable.not_not] at hc164
              refine g_skip ?_
              refine g_block_normal ?_
              refine g_next hK38 ?_
              refine g_region ?_
              refine g_step rfl (s_val (v_move rfl) rfl rfl ?_)
              refine g_step rfl (s_val (v_add rfl rfl (by omega)) rfl rfl ?_)
              refine g_step rfl (s_val (v_assign rfl) rfl rfl ?_)
              refine g_nil ?_
              first | refine g_keep [0, 1, 5, 6, 7, 13, 14] [8, 9] [8, 9] (keep_cons rfl (keep_cons rfl (keep_cons rfl (keep_cons rfl (keep_cons rfl (keep_cons rfl (keep_cons rfl keep_nil))))))) (lkeep_cons rfl (lkeep_cons rfl lkeep_nil)) (keep_cons rfl (keep_cons rfl keep_nil)) rfl ?_ | refine g_keep [0, 1, 5, 6, 7, 13, 14] [8, 9] [8, 9] rfl rfl rfl rfl ?_
              first | exact g_round _ (by omega) ⟨i + 1, (i : Int), by omega, rfl, rfl, rfl, rfl, rfl, AckU.hit hw hg159 (decide_eq_true hc164)⟩ | exact g_round _ (by omega) ⟨i + 1, u, by omega, rfl, rfl, rfl, rfl, rfl, AckU.miss hu hw (by rintro ⟨h1, h2⟩; first | exact hg159 h1 | exact hc164 (of_decide_eq_true h2))⟩
            ·
             try simp only [decide_eq_true_eq, decide_eq_false_iff_not, Bool.not_eq_true', Bool.not_eq_false', Bool.not_eq_eq_eq_not, Bool.not_true, Bool.not_false, Bool.and_eq_true, Bool.or_eq_true, Bool.or_eq_false_iff, beq_iff_eq, beq_eq_false_iff_ne, ne_eq, Int.not_lt, Int.not_le, Decidable.not_not] at hg159
             refine m_take_no (j := 9) (t := 159) 10 rfl rfl rfl rfl rfl rfl (by kernel_rfl) (by kernel_rfl) (by kernel_rfl) (fun _ _ _ _ h => h) rfl rfl ?_
             refine m_take_no (j := 9) (t := 159) 11 rfl rfl rfl rfl rfl rfl (by kernel_rfl) (by kernel_rfl) (by kernel_rfl) (fun _ _ _ _ h => h) rfl rfl ?_
             refine m_take_no (j := 9) (t := 159) 12 rfl rfl rfl rfl rfl rfl (by kernel_rfl) (by kernel_rfl) (by kernel_rfl) (fun _ _ _ _ h => h) rfl rfl ?_
             refine m_take_no (j := 9) (t := 159) 13 rfl rfl rfl rfl rfl rfl (by kernel_rfl) (by kernel_rfl) (by kernel_rfl) (fun _ _ _ _ h => h) rfl rfl ?_
             refine m_take 14 false rfl rfl (by kernel_rfl) (by kernel_rfl) (by kernel_rfl) (fun _ _ _ _ h => h) (v_pick_f rfl rfl) rfl rfl ?_
             refine m_done (by kernel_rfl) ?_
             refine g_next hK39 ?_
             refine g_cond rfl (fun h => by cases h) (fun _ => ?_)
             refine g_skip ?_
             refine g_block_normal ?_
             refine g_next hK38 ?_
             refine g_region ?_
             refine g_step rfl (s_val (v_move rfl) rfl rfl ?_)
             refine g_step rfl (s_val (v_add rfl rfl (by omega)) rfl rfl ?_)
             refine g_step rfl (s_val (v_assign rfl) rfl rfl ?_)
             refine g_nil ?_
             first | refine g_keep [0, 1, 5, 6, 7, 13, 14] [8, 9] [8, 9] (keep_cons rfl (keep_cons rfl (keep_cons rfl (keep_cons rfl (keep_cons rfl (keep_cons rfl (keep_cons rfl keep_nil))))))) (lkeep_cons rfl (lkeep_cons rfl lkeep_nil)) (keep_cons rfl (keep_cons rfl keep_nil)) rfl ?_ | refine g_keep [0, 1, 5, 6, 7, 13, 14] [8, 9] [8, 9] rfl rfl rfl rfl ?_
             first | exact g_round _ (by omega) ⟨i + 1, (i : Int), by omega, rfl, rfl, rfl, rfl, rfl, AckU.hit hw hg159 (decide_eq_true hc164)⟩ | exact g_round _ (by omega) ⟨i + 1, u, by omega, rfl, rfl, rfl, rfl, rfl, AckU.miss hu hw (by rintro ⟨h1, h2⟩; first | exact hg159 h1 | exact hc164 (of_decide_eq_true h2))⟩
           ·
            try simp only [decide_eq_true_eq, decide_eq_false_iff_not, Bool.not_eq_true', Bool.not_eq_false', Bool.not_eq_eq_eq_not, Bool.not_true, Bool.not_false, Bool.and_eq_true, Bool.or_eq_true, Bool.or_eq_false_iff, beq_iff_eq, beq_eq_false_iff_ne, ne_eq, Int.not_lt, Int.not_le, Decidable.not_not] at hc147
            obtain rfl : i = (f x.peer).waits.length := by omega
            obtain ⟨hd1, hd2, hd3⟩ := AckU.done hSp.rise hu
            refine g_exit ?_
            refine g_then_exit ?_
            refine g_then_exit ?_
            refine g_block_same ?_
            refine g_next hK34 ?_
            refine g_seq (fun K40 hK40 => ?_)
            refine g_seq (fun K41 hK41 => ?_)
            refine g_region ?_
            refine g_step rfl (s_val (v_move rfl) rfl rfl ?_)
            refine g_step rfl (s_fieldAddr ty66 fo66_1 ty3 rfl rfl ?_)
            refine g_step rfl (s_val (v_loadl ty3 rfl rfl rfl rfl) rfl rfl ?_)
            refine g_step rfl (s_fieldAddr ty66 fo66_2 ty3 rfl rfl ?_)
            refine g_step rfl (s_val (v_loadl ty3 rfl rfl rfl rfl) rfl rfl ?_)
            refine g_step rfl (s_fieldAddr ty66 fo66_3 ty3 rfl rfl ?_)
            refine g_step rfl (s_val (v_loadl ty3 rfl rfl rfl rfl) rfl rfl ?_)
            refine g_step rfl (s_call rfl rfl rfl (oAcked_ok h p r life f x.peer x.life x.epoch _ hO hs0 (hSp.ok (by omega))) (fun b hb => .inr (hab b hb)) ?_)
            rintro n3 v3 effs3 hn3 hdom3 ⟨hv3, h1, hE3, hO1⟩ hok3
            subst hv3
            have hs1 := hE3.within hs0
            have hab1 := hE3.above hn3 hab
            have hs_H1 := hE3.frame hdom3 hs_H0 (fun b hb => hw0 b (hab b hb))
            obtain ⟨hrm1, hhr1⟩ := hE3.keep_one hdom3 hrm0 hhr
            generalize hG1 : setAll G0 effs3 = G1
            rw [hG1] at hs1 hs_H1 hrm1
            refine g_step rfl (s_val (v_move rfl) rfl rfl ?_)
            refine g_step rfl (s_val (v_geq rfl rfl) rfl rfl ?_)
            refine g_step rfl (s_val (v_bool_neq ty4 rfl rfl) rfl rfl ?_)
            refine g_nil ?_
            refine g_next hK41 ?_
            refine g_cond rfl (fun hc176 => ?_) (fun hc176 => ?_)
            · exfalso; (try simp only [decide_eq_true_eq, decide_eq_false_iff_not, Bool.not_eq_true', Bool.not_eq_false', Bool.not_eq_eq_eq_not, Bool.not_true, Bool.not_false, Bool.and_eq_true, Bool.or_eq_true, Bool.or_eq_false_iff, beq_iff_eq, beq_eq_false_iff_ne, ne_eq, Int.not_lt, Int.not_le, Decidable.not_not] at hc176); first | exact hc176 hd1.symm | (simp [hd1] at hc176; done)
            ·
             try simp only [decide_eq_true_eq, decide_eq_false_iff_not, Bool.not_eq_true', Bool.not_eq_false', Bool.not_eq_eq_eq_not, Bool.not_true, Bool.not_false, Bool.and_eq_true, Bool.or_eq_true, Bool.or_eq_false_iff, beq_iff_eq, beq_eq_false_iff_ne, ne_eq, Int.not_lt, Int.not_le, Decidable.not_not] at hc176
             refine g_skip ?_
             refine g_next hK40 ?_
             refine g_seq (fun K42 hK42 => ?_)
             refine g_region ?_
             refine g_step rfl (s_val (v_move rfl) rfl rfl ?_)
             refine g_step rfl (s_val (v_geq rfl rfl) rfl rfl ?_)
             refine g_nil ?_
             refine g_next hK42 ?_
             refine g_cond rfl (fun hc178 => ?_) (fun hc178 => ?_)
             ·
              try simp only [decide_eq_true_eq, decide_eq_false_iff_not, Bool.not_eq_true', Bool.not_eq_false', Bool.not_eq_eq_eq_not, Bool.not_true, Bool.not_false, Bool.and_eq_true, Bool.or_eq_true, Bool.or_eq_false_iff, beq_iff_eq, beq_eq_false_iff_ne, ne_eq, Int.not_lt, Int.not_le, Decidable.not_not] at hc178
              obtain ⟨i, w, rfl, hw, haf, hbl⟩ := hd2 hc178
              have hbl := of_decide_eq_true hbl
              rw [if_pos hbl, haf] at hO1
              have hSw := (hSp.ack x.epoch).mono (Nat.le_succ k)
              rw [haf] at hSw
              have hil := (List.getElem?_eq_some_iff.1 hw).1
              refine g_seq (fun K43 hK43 => ?_)
              refine g_region ?_
              refine g_step rfl (s_fieldAddr ty72 fo72_2 ty70 rfl rfl ?_)
              refine g_step rfl (s_val (v_loadl ty70 rfl rfl rfl rfl) rfl rfl ?_)
              refine g_step rfl (s_val (v_move rfl) rfl rfl ?_)
              refine g_step rfl (s_val (v_indexAddr ty70 ty69 rfl rfl (by first | rfl | assumption) (by first | rfl | exact (rfl : (0 : Int) = ((0 : Nat) : Int)) | exact (Int.toNat_of_nonneg (by omega)).symm) (map_get hw) rfl) rfl rfl ?_)
              refine g_step rfl (s_val (by first | exact v_load_elt ty69 rfl rfl (by first | rfl | assumption) (map_get hw) rfl rfl | exact v_load_box_all ty69 rfl rfl (by assumption) rfl rfl | exact v_load_part (cs := [_, _]) ty69 rfl rfl (by first | rfl | assumption) (map_get hw) rfl rfl rfl | exact v_load_box_part (cs := [_, _]) ty69 rfl rfl (by assumption) rfl rfl rfl) rfl rfl ?_)
              refine g_step rfl (s_fieldAddr ty72 fo72_1 ty69 rfl rfl ?_)
              refine g_step rfl (s_store (new := (encOP ⟨(f x.peer).last, w, (f x.peer).waits⟩)) ty69 rfl rfl rfl rfl rfl rfl rfl ?_)
              refine g_nil ?_
              refine g_next hK43 ?_
              first | refine g_keep [0, 1, 5, 6, 7, 13] [8, 9] [8, 9] (keep_cons rfl (keep_cons rfl (keep_cons rfl (keep_cons rfl (keep_cons rfl (keep_cons rfl keep_nil)))))) (lkeep_cons rfl (lkeep_cons rfl lkeep_nil)) (keep_cons rfl (keep_cons rfl keep_nil)) rfl ?_ | refine g_keep [0, 1, 5, 6, 7, 13] [8, 9] [8, 9] rfl rfl rfl rfl ?_
              refine g_region ?_
              refine g_step rfl (s_fieldAddr ty72 fo72_2 ty70 rfl rfl ?_)
              refine g_step rfl (s_val (v_loadl ty70 rfl rfl rfl rfl) rfl rfl ?_)
              refine g_step rfl (s_val (v_move rfl) rfl rfl ?_)
              refine g_step rfl (s_val (v_add rfl rfl (by omega)) rfl rfl ?_)
              refine g_step rfl (s_val (v_slice_imm (lo := (i + 1)) (hi := (f x.peer).waits.length) (m := (((f x.peer).waits.drop (i + 1)).map encW)) ty70 ty69 rfl rfl rfl (by first | rfl | (exact (rfl : (0 : Int) = ((0 : Nat) : Int))) | omega | (simp <;> omega)) (by simp) (by omega) (by simp) (by refine Even.map _ ?_ _; intro _; rfl) (by rw [List.take_of_length_le (by simp), ← List.map_drop])) rfl rfl ?_)
              refine g_step rfl (s_fieldAddr ty72 fo72_2 ty70 rfl rfl ?_)
              refine g_step rfl (s_store (new := (encOP ⟨(f x.peer).last, w, (f x.peer).waits.drop (i + 1)⟩)) ty70 rfl rfl rfl rfl rfl rfl rfl ?_)
              refine g_nil ?_
              first | refine g_keep [0, 1, 5, 6, 7] [8, 9] [8, 9] (keep_cons rfl (keep_cons rfl (keep_cons rfl (keep_cons rfl (keep_cons rfl keep_nil))))) (lkeep_cons rfl (lkeep_cons rfl lkeep_nil)) (keep_cons rfl (keep_cons rfl keep_nil)) rfl ?_ | refine g_keep [0, 1, 5, 6, 7] [8, 9] [8, 9] rfl rfl rfl rfl ?_
              first | exact g_has ⟨nextF (f x.peer) x.now, h1, j, rfl, rfl, rfl, ⟨hO1, hs1, hab1, hs_H1, hhr1, hrm1, hSp.next hn20 hns hsn, hj, hle⟩⟩ | exact g_has ⟨⟨(f x.peer).last, w, (f x.peer).waits.drop (i + 1)⟩, h1, j, rfl, rfl, rfl, ⟨hO1, hs1, hab1, hs_H1, hhr1, hrm1, hSw, hj, hle⟩⟩ | exact g_has ⟨⟨(f x.peer).last, b0, (f x.peer).waits⟩, h1, j, rfl, rfl, rfl, ⟨hO1, hs1, hab1, hs_H1, hhr1, hrm1, hSw, hj, hle⟩⟩ | exact g_has ⟨(f x.peer), h1, j, rfl, rfl, rfl, ⟨hO1, hs1, hab1, hs_H1, hhr1, hrm1, hSp.mono (Nat.le_succ k), hj, hle⟩⟩
             ·
              try simp only [decide_eq_true_eq, decide_eq_false_iff_not, Bool.not_eq_true', Bool.not_eq_false', Bool.not_eq_eq_eq_not, Bool.not_true, Bool.not_false, Bool.and_eq_true, Bool.or_eq_true, Bool.or_eq_false_iff, beq_iff_eq, beq_eq_false_iff_ne, ne_eq, Int.not_lt, Int.not_le, Decidable.not_not] at hc178
              rw [show (if x.life = life then ackF (f x.peer) x.epoch else (f x.peer)) = (f x.peer) by have := hd3 (by omega); simpa using this] at hO1
              refine g_skip ?_
              first | refine g_keep [0, 1, 5, 6, 7] [8, 9] [8, 9] (keep_cons rfl (keep_cons rfl (keep_cons rfl (keep_cons rfl (keep_cons rfl keep_nil))))) (lkeep_cons rfl (lkeep_cons rfl lkeep_nil)) (keep_cons rfl (keep_cons rfl keep_nil)) rfl ?_ | refine g_keep [0, 1, 5, 6, 7] [8, 9] [8, 9] rfl rfl rfl rfl ?_
              first | exact g_has ⟨nextF (f x.peer) x.now, h1, j, rfl, rfl, rfl, ⟨hO1, hs1, hab1, hs_H1, hhr1, hrm1, hSp.next hn20 hns hsn, hj, hle⟩⟩ | exact g_has ⟨⟨(f x.peer).last, w, (f x.peer).waits.drop (i + 1)⟩, h1, j, rfl, rfl, rfl, ⟨hO1, hs1, hab1, hs_H1, hhr1, hrm1, hSw, hj, hle⟩⟩ | exact g_has ⟨⟨(f x.peer).last, b0, (f x.peer).waits⟩, h1, j, rfl, rfl, rfl, ⟨hO1, hs1, hab1, hs_H1, hhr1, hrm1, hSw, hj, hle⟩⟩ | exact g_has ⟨(f x.peer), h1, j, rfl, rfl, rfl, ⟨hO1, hs1, hab1, hs_H1, hhr1, hrm1, hSp.mono (Nat.le_succ k), hj, hle⟩⟩
          ·
           try simp only [decide_eq_true_eq, decide_eq_false_iff_not, Bool.not_eq_true', Bool.not_eq_false', Bool.not_eq_eq_eq_not, Bool.not_true, Bool.not_false, Bool.and_eq_true, Bool.or_eq_true, Bool.or_eq_false_iff, beq_iff_eq, beq_eq_false_iff_ne, ne_eq, Int.not_lt, Int.not_le, Decidable.not_not] at hc142
           obtain ⟨G0, hG0⟩ : ∃ G0, G0 = G := ⟨_, rfl⟩
           have hs0 := hs
           have hs_H0 := hs_H
           have hrm0 := hrm
           rw [← hG0] at hs0 hs_H0 hrm0
           refine g_cut (fun env L B G => ∃ (u : Bool), env = [(0, .int .i64 life), (1, .imm (l.map encOA)), (5, .box p 0), (6, .own r30 4 0 2), (7, .int .i64 (k : Int)), (15, .bool u)] ∧ L = [(8, 8, 0), (9, 9, 0)] ∧ B = [(8, (encOA x)), (9, (encOP (f x.peer)))] ∧ G0 = G ∧ u = (decide (x.life = life) && lackB (f x.peer) x.epoch)) ?_ (fun env L B G hI => ?_)
           ·
            refine g_region ?_
            refine g_step rfl (s_fieldAddr ty66 fo66_2 ty3 rfl rfl ?_)
            refine g_step rfl (s_val (v_loadl ty3 rfl rfl rfl rfl) rfl rfl ?_)
            refine g_step rfl (s_val (v_move rfl) rfl rfl ?_)
            refine g_step rfl (s_val (v_eql rfl rfl) rfl rfl ?_)
            refine g_step rfl (s_val (v_move rfl) rfl rfl ?_)
            refine g_split 195 rfl (fun hg195 => ?_) (fun hg195 => ?_)
            ·
             try simp only [decide_eq_true_eq, decide_eq_false_iff_not, Bool.not_eq_true', Bool.not_eq_false', Bool.not_eq_eq_eq_not, Bool.not_true, Bool.not_false, Bool.and_eq_true, Bool.or_eq_true, Bool.or_eq_false_iff, beq_iff_eq, beq_eq_false_iff_ne, ne_eq, Int.not_lt, Int.not_le, Decidable.not_not] at hg195
             refine g_step_yes (j := 4) (t := 195) rfl rfl rfl rfl (s_fieldAddr ty66 fo66_3 ty3 rfl rfl ?_)
             refine g_step_yes (j := 4) (t := 195) rfl rfl rfl rfl (s_val (v_loadl ty3 rfl rfl rfl rfl) rfl rfl ?_)
             refine g_step_yes (j := 4) (t := 195) rfl rfl rfl rfl (s_val (v_geq rfl rfl) rfl rfl ?_)
             refine g_step rfl (s_val (v_pick_t rfl rfl) rfl rfl ?_)
             refine g_step rfl (s_val (v_move rfl) rfl rfl ?_)
             refine g_split 200 rfl (fun hg200 => ?_) (fun hg200 => ?_)
             ·
              try simp only [decide_eq_true_eq, decide_eq_false_iff_not, Bool.not_eq_true', Bool.not_eq_false', Bool.not_eq_eq_eq_not, Bool.not_true, Bool.not_false, Bool.and_eq_true, Bool.or_eq_true, Bool.or_eq_false_iff, beq_iff_eq, beq_eq_false_iff_ne, ne_eq, Int.not_lt, Int.not_le, Decidable.not_not] at hg200
              refine g_step_yes (j := 9) (t := 200) rfl rfl rfl rfl (s_fieldAddr ty66 fo66_3 ty3 rfl rfl ?_)
              refine g_step_yes (j := 9) (t := 200) rfl rfl rfl rfl (s_val (v_loadl ty3 rfl rfl rfl rfl) rfl rfl ?_)
              refine g_step_yes (j := 9) (t := 200) rfl rfl rfl rfl (s_fieldAddr ty72 fo72_0 ty3 rfl rfl ?_)
              refine g_step_yes (j := 9) (t := 200) rfl rfl rfl rfl (s_val (v_loadl ty3 rfl rfl rfl rfl) rfl rfl ?_)
              refine g_step_yes (j := 9) (t := 200) rfl rfl rfl rfl (s_val (v_leq rfl rfl) rfl rfl ?_)
              refine g_step rfl (s_val (v_pick_t rfl rfl) rfl rfl ?_)
              refine g_step rfl (s_val (v_move rfl) rfl rfl ?_)
              refine g_split 207 rfl (fun hg207 => ?_) (fun hg207 => ?_)
              ·
               try simp only [decide_eq_true_eq, decide_eq_false_iff_not, Bool.not_eq_true', Bool.not_eq_false', Bool.not_eq_eq_eq_not, Bool.not_true, Bool.not_false, Bool.and_eq_true, Bool.or_eq_true, Bool.or_eq_false_iff, beq_iff_eq, beq_eq_false_iff_ne, ne_eq, Int.not_lt, Int.not_le, Decidable.not_not] at hg207
               refine g_step_yes (j := 16) (t := 207) rfl rfl rfl rfl (s_fieldAddr ty72 fo72_1 ty69 rfl rfl ?_)
               refine g_step_yes (j := 16) (t := 207) rfl rfl rfl rfl (s_fieldAddr ty69 fo69_0 ty3 rfl rfl ?_)
               refine g_step_yes (j := 16) (t := 207) rfl rfl rfl rfl (s_val (v_loadl ty3 rfl rfl rfl rfl) rfl rfl ?_)
               refine g_step_yes (j := 16) (t := 207) rfl rfl rfl rfl (s_val (v_gtr rfl rfl) rfl rfl ?_)
               refine g_step rfl (s_val (v_pick_t rfl rfl) rfl rfl ?_)
               refine g_step rfl (s_val (v_assign rfl) rfl rfl ?_)
               refine g_nil ?_
               first | refine g_keep [0, 1, 5, 6, 7, 15] [8, 9] [8, 9] (keep_cons rfl (keep_cons rfl (keep_cons rfl (keep_cons rfl (keep_cons rfl (keep_cons rfl keep_nil)))))) (lkeep_cons rfl (lkeep_cons rfl lkeep_nil)) (keep_cons rfl (keep_cons rfl keep_nil)) rfl ?_ | refine g_keep [0, 1, 5, 6, 7, 15] [8, 9] [8, 9] rfl rfl rfl rfl ?_
               exact g_has ⟨_, rfl, rfl, rfl, hG0, (by rw [lackB_law hSp.bep]; first | (rw [decide_eq_true hg195, decide_eq_true hg200, decide_eq_true hg207]; rfl) | (simp [*]; done) | exact (Bool.eq_false_iff.2 fun h => by simp only [Bool.and_eq_true, decide_eq_true_eq] at h; omega).symm)⟩
              ·
               try simp only [decide_eq_true_eq, decide_eq_false_iff_not, Bool.not_eq_true', Bool.not_eq_false', Bool.not_eq_eq_eq_not, Bool.not_true, Bool.not_false, Bool.and_eq_true, Bool.or_eq_true, Bool.or_eq_false_iff, beq_iff_eq, beq_eq_false_iff_ne, ne_eq, Int.not_lt, Int.not_le, Decidable.not_not] at hg207
               refine g_step_no (j := 16) (t := 207) rfl rfl rfl rfl rfl rfl rfl ?_
               refine g_step_no (j := 16) (t := 207) rfl rfl rfl rfl rfl rfl rfl ?_
               refine g_step_no (j := 16) (t := 207) rfl rfl rfl rfl rfl rfl rfl ?_
               refine g_step_no (j := 16) (t := 207) rfl rfl rfl rfl rfl rfl rfl ?_
               refine g_step rfl (s_val (v_pick_f rfl rfl) rfl rfl ?_)
               refine g_step rfl (s_val (v_assign rfl) rfl rfl ?_)
               refine g_nil ?_
               first | refine g_keep [0, 1, 5, 6, 7, 15] [8, 9] [8, 9] (keep_cons rfl (keep_cons rfl (keep_cons rfl (keep_cons rfl (keep_cons rfl (keep_cons rfl keep_nil)))))) (lkeep_cons rfl (lkeep_cons rfl lkeep_nil)) (keep_cons rfl (keep_cons rfl keep_nil)) rfl ?_ | refine g_keep [0, 1, 5, 6, 7, 15] [8, 9] [8, 9] rfl rfl rfl rfl ?_
               exact g_has ⟨_, rfl, rfl, rfl, hG0, (by rw [lackB_law hSp.bep]; first | (rw [decide_eq_true hg195, decide_eq_true hg200, decide_eq_true hg207]; rfl) | (simp [*]; done) | exact (Bool.eq_false_iff.2 fun h => by simp only [Bool.and_eq_true, decide_eq_true_eq] at h; omega).symm)⟩
             ·
              try simp only [decide_eq_true_eq, decide_eq_false_iff_not, Bool.not_eq_true', Bool.not_eq_false', Bool.not_eq_eq_eq_not, Bool.not_true, Bool.not_false, Bool.and_eq_true, Bool.or_eq_true, Bool.or_eq_false_iff, beq_iff_eq, beq_eq_false_iff_ne, ne_eq, Int.not_lt, Int.not_le, Decidable.not_not] at hg200
              refine g_step_no (j := 9) (t := 200) rfl rfl rfl rfl rfl rfl rfl ?_
              refine g_step_no (j := 9) (t := 200) rfl rfl rfl rfl rfl rfl rfl ?_
              refine g_step_no (j := 9) (t := 200) rfl rfl rfl rfl rfl rfl rfl ?_
              refine g_step_no (j := 9) (t := 200) rfl rfl rfl rfl rfl rfl rfl ?_
              refine g_step_no (j := 9) (t := 200) rfl rfl rfl rfl rfl rfl rfl ?_
              refine g_step rfl (s_val (v_pick_f rfl rfl) rfl rfl ?_)
              refine g_step rfl (s_val (v_move rfl) rfl rfl ?_)
              refine g_step_no (j := 16) (t := 207) rfl rfl rfl rfl rfl rfl rfl ?_
              refine g_step_no (j := 16) (t := 207) rfl rfl rfl rfl rfl rfl rfl ?_
              refine g_step_no (j := 16) (t := 207) rfl rfl rfl rfl rfl rfl rfl ?_
              refine g_step_no (j := 16) (t := 207) rfl rfl rfl rfl rfl rfl rfl ?_
              refine g_step rfl (s_val (v_pick_f rfl rfl) rfl rfl ?_)
              refine g_step rfl (s_val (v_assign rfl) rfl rfl ?_)
              refine g_nil ?_
              first | refine g_keep [0, 1, 5, 6, 7, 15] [8, 9] [8, 9] (keep_cons rfl (keep_cons rfl (keep_cons rfl (keep_cons rfl (keep_cons rfl (keep_cons rfl keep_nil)))))) (lkeep_cons rfl (lkeep_cons rfl lkeep_nil)) (keep_cons rfl (keep_cons rfl keep_nil)) rfl ?_ | refine g_keep [0, 1, 5, 6, 7, 15] [8, 9] [8, 9] rfl rfl rfl rfl ?_
              exact g_has ⟨_, rfl, rfl, rfl, hG0, (by rw [lackB_law hSp.bep]; first | (rw [decide_eq_true hg195, decide_eq_true hg200, decide_eq_true hg207]; rfl) | (simp [*]; done) | exact (Bool.eq_false_iff.2 fun h => by simp only [Bool.and_eq_true, decide_eq_true_eq] at h; omega).symm)⟩
            ·
             try simp only [decide_eq_true_eq, decide_eq_false_iff_not, Bool.not_eq_true', Bool.not_eq_false', Bool.not_eq_eq_eq_not, Bool.not_true, Bool.not_false, Bool.and_eq_true, Bool.or_eq_true, Bool.or_eq_false_iff, beq_iff_eq, beq_eq_false_iff_ne, ne_eq, Int.not_lt, Int.not_le, Decidable.not_not] at hg195
             refine g_step_no (j := 4) (t := 195) rfl rfl rfl rfl rfl rfl rfl ?_
             refine g_step_no (j := 4) (t := 195) rfl rfl rfl rfl rfl rfl rfl ?_
             refine g_step_no (j := 4) (t := 195) rfl rfl rfl rfl rfl rfl rfl ?_
             refine g_step rfl (s_val (v_pick_f rfl rfl) rfl rfl ?_)
             refine g_step rfl (s_val (v_move rfl) rfl rfl ?_)
             refine g_step_no (j := 9) (t := 200) rfl rfl rfl rfl rfl rfl rfl ?_
             refine g_step_no (j := 9) (t := 200) rfl rfl rfl rfl rfl rfl rfl ?_
             refine g_step_no (j := 9) (t := 200) rfl rfl rfl rfl rfl rfl rfl ?_
             refine g_step_no (j := 9) (t := 200) rfl rfl rfl rfl rfl rfl rfl ?_
             refine g_step_no (j := 9) (t := 200) rfl rfl rfl rfl rfl rfl rfl ?_
             refine g_step rfl (s_val (v_pick_f rfl rfl) rfl rfl ?_)
             refine g_step rfl (s_val (v_move rfl) rfl rfl ?_)
             refine g_step_no (j := 16) (t := 207) rfl rfl rfl rfl rfl rfl rfl ?_
             refine g_step_no (j := 16) (t := 207) rfl rfl rfl rfl rfl rfl rfl ?_
             refine g_step_no (j := 16) (t := 207) rfl rfl rfl rfl rfl rfl rfl ?_
             refine g_step_no (j := 16) (t := 207) rfl rfl rfl rfl rfl rfl rfl ?_
             refine g_step rfl (s_val (v_pick_f rfl rfl) rfl rfl ?_)
             refine g_step rfl (s_val (v_assign rfl) rfl rfl ?_)
             refine g_nil ?_
             first | refine g_keep [0, 1, 5, 6, 7, 15] [8, 9] [8, 9] (keep_cons rfl (keep_cons rfl (keep_cons rfl (keep_cons rfl (keep_cons rfl (keep_cons rfl keep_nil)))))) (lkeep_cons rfl (lkeep_cons rfl lkeep_nil)) (keep_cons rfl (keep_cons rfl keep_nil)) rfl ?_ | refine g_keep [0, 1, 5, 6, 7, 15] [8, 9] [8, 9] rfl rfl rfl rfl ?_
             exact g_has ⟨_, rfl, rfl, rfl, hG0, (by rw [lackB_law hSp.bep]; first | (rw [decide_eq_true hg195, decide_eq_true hg200, decide_eq_true hg207]; rfl) | (simp [*]; done) | exact (Bool.eq_false_iff.2 fun h => by simp only [Bool.and_eq_true, decide_eq_true_eq] at h; omega).symm)⟩
           ·
            obtain ⟨u, rfl, rfl, rfl, rfl, hu⟩ := hI
            refine g_seq (fun K44 hK44 => ?_)
            refine g_seq (fun K45 hK45 => ?_)
            refine g_region ?_
            refine g_step rfl (s_val (v_move rfl) rfl rfl ?_)
            refine g_step rfl (s_fieldAddr ty66 fo66_1 ty3 rfl rfl ?_)
            refine g_step rfl (s_val (v_loadl ty3 rfl rfl rfl rfl) rfl rfl ?_)
            refine g_step rfl (s_fieldAddr ty66 fo66_2 ty3 rfl rfl ?_)
            refine g_step rfl (s_val (v_loadl ty3 rfl rfl rfl rfl) rfl rfl ?_)
            refine g_step rfl (s_fieldAddr ty66 fo66_3 ty3 rfl rfl ?_)
            refine g_step rfl (s_val (v_loadl ty3 rfl rfl rfl rfl) rfl rfl ?_)
            refine g_step rfl (s_call rfl rfl rfl (oLacked_ok h p r life f x.peer x.life x.epoch _ hO hs0 (hSp.ok (by omega))) (fun b hb => .inr (hab b hb)) ?_)
            rintro n4 v4 effs4 hn4 hdom4 ⟨hv4, h1, hE4, hO1⟩ hok4
            subst hv4
            have hs1 := hE4.within hs0
            have hab1 := hE4.above hn4 hab
            have hs_H1 := hE4.frame hdom4 hs_H0 (fun b hb => hw0 b (hab b hb))
            obtain ⟨hrm1, hhr1⟩ := hE4.keep_one hdom4 hrm0 hhr
            generalize hG1 : setAll G0 effs4 = G1
            rw [hG1] at hs1 hs_H1 hrm1
            refine g_step rfl (s_val (v_move rfl) rfl rfl ?_)
            refine g_step rfl (s_val (v_bool_neq ty4 rfl rfl) rfl rfl ?_)
            refine g_nil ?_
            refine g_next hK45 ?_
            refine g_cond rfl (fun hc222 => ?_) (fun hc222 => ?_)
            · exfalso; (try simp only [decide_eq_true_eq, decide_eq_false_iff_not, Bool.not_eq_true', Bool.not_eq_false', Bool.not_eq_eq_eq_not, Bool.not_true, Bool.not_false, Bool.and_eq_true, Bool.or_eq_true, Bool.or_eq_false_iff, beq_iff_eq, beq_eq_false_iff_ne, ne_eq, Int.not_lt, Int.not_le, Decidable.not_not] at hc222); first | exact hc222 hu.symm | (simp [hu] at hc222; done)
            ·
             try simp only [decide_eq_true_eq, decide_eq_false_iff_not, Bool.not_eq_true', Bool.not_eq_false', Bool.not_eq_eq_eq_not, Bool.not_true, Bool.not_false, Bool.and_eq_true, Bool.or_eq_true, Bool.or_eq_false_iff, beq_iff_eq, beq_eq_false_iff_ne, ne_eq, Int.not_lt, Int.not_le, Decidable.not_not] at hc222
             refine g_skip ?_
             refine g_next hK44 ?_
             refine g_seq (fun K46 hK46 => ?_)
             refine g_region ?_
             refine g_step rfl (s_val (v_move rfl) rfl rfl ?_)
             refine g_nil ?_
             refine g_next hK46 ?_
             refine g_cond rfl (fun hc223 => ?_) (fun hc223 => ?_)
             ·
              try simp only [decide_eq_true_eq, decide_eq_false_iff_not, Bool.not_eq_true', Bool.not_eq_false', Bool.not_eq_eq_eq_not, Bool.not_true, Bool.not_false, Bool.and_eq_true, Bool.or_eq_true, Bool.or_eq_false_iff, beq_iff_eq, beq_eq_false_iff_ne, ne_eq, Int.not_lt, Int.not_le, Decidable.not_not] at hc223
              have hy : x.life = life ∧ lackB (f x.peer) x.epoch = true := by rw [hu] at hc223; simpa using hc223
              rw [if_pos hy.1, show lackF (f x.peer) x.epoch = ⟨(f x.peer).last, b0, (f x.peer).waits⟩ by rw [lackF, if_pos hy.2]] at hO1
              have hSw := (hSp.lack x.epoch).mono (Nat.le_succ k)
              rw [show lackF (f x.peer) x.epoch = ⟨(f x.peer).last, b0, (f x.peer).waits⟩ by rw [lackF, if_pos hy.2]] at hSw
              refine g_region ?_
              refine g_step rfl (s_val (v_sub (b := (encW b0)) (v_build (vs := []) (zs := [(.int .i64 0), .nil0]) (cells := [_, _]) ty69 pl69 rfl rfl rfl) (ASub.agg (m := [.int .i64 0, .imm []]) ⟨ASub.refl _, ASub.nil0, trivial⟩)) rfl rfl ?_)
              refine g_step rfl (s_fieldAddr ty72 fo72_1 ty69 rfl rfl ?_)
              refine g_step rfl (s_store (new := (encOP ⟨(f x.peer).last, b0, (f x.peer).waits⟩)) ty69 rfl rfl rfl rfl rfl rfl rfl ?_)
              refine g_nil ?_
              first | refine g_keep [0, 1, 5, 6, 7] [8, 9] [8, 9] (keep_cons rfl (keep_cons rfl (keep_cons rfl (keep_cons rfl (keep_cons rfl keep_nil))))) (lkeep_cons rfl (lkeep_cons rfl lkeep_nil)) (keep_cons rfl (keep_cons rfl keep_nil)) rfl ?_ | refine g_keep [0, 1, 5, 6, 7] [8, 9] [8, 9] rfl rfl rfl rfl ?_
              first | exact g_has ⟨nextF (f x.peer) x.now, h1, j, rfl, rfl, rfl, ⟨hO1, hs1, hab1, hs_H1, hhr1, hrm1, hSp.next hn20 hns hsn, hj, hle⟩⟩ | exact g_has ⟨⟨(f x.peer).last, w, (f x.peer).waits.drop (i + 1)⟩, h1, j, rfl, rfl, rfl, ⟨hO1, hs1, hab1, hs_H1, hhr1, hrm1, hSw, hj, hle⟩⟩ | exact g_has ⟨⟨(f x.peer).last, b0, (f x.peer).waits⟩, h1, j, rfl, rfl, rfl, ⟨hO1, hs1, hab1, hs_H1, hhr1, hrm1, hSw, hj, hle⟩⟩ | exact g_has ⟨(f x.peer), h1, j, rfl, rfl, rfl, ⟨hO1, hs1, hab1, hs_H1, hhr1, hrm1, hSp.mono (Nat.le_succ k), hj, hle⟩⟩
             ·
              try simp only [decide_eq_true_eq, decide_eq_false_iff_not, Bool.not_eq_true', Bool.not_eq_false', Bool.not_eq_eq_eq_not, Bool.not_true, Bool.not_false, Bool.and_eq_true, Bool.or_eq_true, Bool.or_eq_false_iff, beq_iff_eq, beq_eq_false_iff_ne, ne_eq, Int.not_lt, Int.not_le, Decidable.not_not] at hc223
              rw [show (if x.life = life then lackF (f x.peer) x.epoch else (f x.peer)) = (f x.peer) by split; (rename_i h9; rw [lackF, if_neg (by intro h2; rw [hu, h2, decide_eq_true h9] at hc223; cases hc223)]); rfl] at hO1
              refine g_skip ?_
              first | refine g_keep [0, 1, 5, 6, 7] [8, 9] [8, 9] (keep_cons rfl (keep_cons rfl (keep_cons rfl (keep_cons rfl (keep_cons rfl keep_nil))))) (lkeep_cons rfl (lkeep_cons rfl lkeep_nil)) (keep_cons rfl (keep_cons rfl keep_nil)) rfl ?_ | refine g_keep [0, 1, 5, 6, 7] [8, 9] [8, 9] rfl rfl rfl rfl ?_
              first | exact g_has ⟨nextF (f x.peer) x.now, h1, j, rfl, rfl, rfl, ⟨hO1, hs1, hab1, hs_H1, hhr1, hrm1, hSp.next hn20 hns hsn, hj, hle⟩⟩ | exact g_has ⟨⟨(f x.peer).last, w, (f x.peer).waits.drop (i + 1)⟩, h1, j, rfl, rfl, rfl, ⟨hO1, hs1, hab1, hs_H1, hhr1, hrm1, hSw, hj, hle⟩⟩ | exact g_has ⟨⟨(f x.peer).last, b0, (f x.peer).waits⟩, h1, j, rfl, rfl, rfl, ⟨hO1, hs1, hab1, hs_H1, hhr1, hrm1, hSw, hj, hle⟩⟩ | exact g_has ⟨(f x.peer), h1, j, rfl, rfl, rfl, ⟨hO1, hs1, hab1, hs_H1, hhr1, hrm1, hSp.mono (Nat.le_succ k), hj, hle⟩⟩
        ·
         obtain ⟨s1, h1, j, rfl, rfl, rfl, hO1, hs1, hab1, hs_H1, hhr1, hrm1, hSs, hj, hle⟩ := hI
         refine g_region ?_
         refine g_step rfl (s_val (v_move rfl) rfl rfl ?_)
         refine g_step rfl (s_fieldAddr ty66 fo66_1 ty3 rfl rfl ?_)
         refine g_step rfl (s_val (v_loadl ty3 rfl rfl rfl rfl) rfl rfl ?_)
         refine g_step rfl (s_val (by first | exact v_loadl_all ty72 rfl rfl rfl rfl rfl | exact v_loadl_part (cs := [_, _, _, _]) ty72 rfl rfl rfl rfl rfl rfl) rfl rfl ?_)
         refine g_step rfl (s_val (v_indexAddr ty63 ty72 rfl rfl (AV.view_own_all hrm1 rfl) hj (pair_at f hj hle) rfl) rfl rfl ?_)
         refine g_step rfl (s_store_row (k := j) (off := 0) (old := encOP (f x.peer)) (new := encOP s1) ty72 rfl rfl hrm1 (by rw [Nat.zero_add]; exact pair_at f hj hle) rfl rfl rfl rfl (.inr hw30) ?_)
         rw [Nat.zero_add j, pair_set f s1 hj hle]
         refine g_nil ?_
         refine g_block_normal ?_
         refine g_next hK12 ?_
         refine g_region ?_
         refine g_step rfl (s_val (v_move rfl) rfl rfl ?_)
         refine g_step rfl (s_val (v_add rfl rfl (by omega)) rfl rfl ?_)
         refine g_step rfl (s_val (v_assign rfl) rfl rfl ?_)
         refine g_nil ?_
         first | refine g_keep [0, 1, 5, 6, 7] [] [] (keep_cons rfl (keep_cons rfl (keep_cons rfl (keep_cons rfl (keep_cons rfl keep_nil))))) lkeep_nil keep_nil rfl ?_ | refine g_keep [0, 1, 5, 6, 7] [] [] rfl rfl rfl rfl ?_
         first | exact g_round _ (by omega) ⟨k + 1, upd f x.peer s1, h1, by omega, rfl, rfl, rfl, rfl, ⟨hO1, sub_set' hs1 hhr1, hab1, sub_set' hs_H1 hHr30, hhr1, AHeap.get_set _ _ _, upd_inv hS0 hSs, upd_inv hS1 hSs⟩⟩ | exact g_round _ (by omega) ⟨k + 1, f, h1, by omega, rfl, rfl, rfl, rfl, ⟨hO1, hs1, hab1, hs_H1, hhr1, hrm1, hS0.mono (by omega), hS1.mono (by omega)⟩⟩
    ·
     try simp only [decide_eq_true_eq, decide_eq_false_iff_not, Bool.not_eq_true', Bool.not_eq_false', Bool.not_eq_eq_eq_not, Bool.not_true, Bool.not_false, Bool.and_eq_true, Bool.or_eq_true, Bool.or_eq_false_iff, beq_iff_eq, beq_eq_false_iff_ne, ne_eq, Int.not_lt, Int.not_le, Decidable.not_not] at hc34
     obtain rfl : k = l.length := by omega
     refine g_exit ?_
     refine g_then_exit ?_
     refine g_then_exit ?_
     refine g_block_same ?_
     refine g_next hK8 ?_
     refine g_seq (fun K47 hK47 => ?_)
     refine g_region ?_
     refine g_step rfl (s_callp rfl rfl rfl (awake26_ok _) ?_)
     rintro _ rfl
     refine g_step rfl (s_val (v_assign rfl) rfl rfl ?_)
     refine g_nil ?_
     refine g_next hK47 ?_
     refine g_ret ?_
     refine g_end1 (.inl rfl) Try.results7 (.tmp rfl) [] (ASub.refl _) (by first | exact hs_H | exact hs_H1 | exact AHeap.sub_refl _) (fun p hp => by cases hp) ⟨rfl, ?_⟩
     rfl

end Go.Proofs.Ytobigfbgaiglkaa

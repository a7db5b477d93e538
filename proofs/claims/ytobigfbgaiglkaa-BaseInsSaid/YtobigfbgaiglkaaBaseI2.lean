import Derived.Test.YtobigfbgaiglkaaBaseI
set_option maxHeartbeats 8000000
set_option linter.unusedSimpArgs false
set_option linter.unusedVariables false
set_option maxRecDepth 100000
namespace Go.Proofs.Ytobigfbgaiglkaa
open Go Go.Proofs.Ytobigfbgaiglkaa.AM
theorem baseIns_ok (l : List IAct) (life epoch : Int) (hh : ∀ a ∈ l, ∀ r ∈ a.recs, Held r.bag) (hb : ∀ a ∈ l, a.recs.length ≤ 140737488351232) (G : AHeap) : PCalls Try.prog 8 [.imm (l.map encIA), .int .i64 life, .int .i64 epoch] G (fun r => r = .bool true) := by
 refine LCalls.intro 197 fi8 rfl Try.ntmps8 rfl (fun _ h => h.elim) (fun H hH w0 hw0 => ?_)
 refine g_seq (fun K0 hK0 => ?_)
 refine g_region ?_
 refine g_step rfl (s_val (v_assign rfl) rfl rfl ?_)
 refine g_nil ?_
 refine g_next hK0 ?_
 refine g_seq (fun K1 hK1 => ?_)
 refine g_seq (fun K2 hK2 => ?_)
 refine g_region ?_
 refine g_step rfl (s_val (v_move rfl) rfl rfl ?_)
 refine g_step rfl (s_val (v_len ty78 rfl (by first | rfl | assumption) (by first | exact List.length_map .. | rfl)) rfl rfl ?_)
 refine g_step rfl (s_val (v_gtr rfl rfl) rfl rfl ?_)
 refine g_nil ?_
 refine g_next hK2 ?_
 refine g_cond rfl (fun hc23 => ?_) (fun hc23 => ?_)
 ·
  try simp only [decide_eq_true_eq, decide_eq_false_iff_not, Bool.not_eq_true', Bool.not_eq_false', Bool.not_eq_eq_eq_not, Bool.not_true, Bool.not_false, Bool.and_eq_true, Bool.or_eq_true, Bool.or_eq_false_iff, beq_iff_eq, beq_eq_false_iff_ne, ne_eq, Int.not_lt, Int.not_le, Decidable.not_not] at hc23
  refine g_seq (fun K3 hK3 => ?_)
  refine g_region ?_
  refine g_step rfl (s_callp rfl rfl rfl (awake26_ok _) ?_)
  rintro _ rfl
  refine g_step rfl (s_val (v_assign rfl) rfl rfl ?_)
  refine g_nil ?_
  refine g_next hK3 ?_
  refine g_ret ?_
  refine g_then_ret ?_
  refine g_end1 (.inl rfl) Try.results8 (.tmp rfl) [] (ASub.refl _) (by first | exact hs_H | exact hs_H0 | exact AHeap.sub_refl _) (fun p hp => by cases hp) ⟨rfl, ?_⟩
  rfl
 ·
  try simp only [decide_eq_true_eq, decide_eq_false_iff_not, Bool.not_eq_true', Bool.not_eq_false', Bool.not_eq_eq_eq_not, Bool.not_true, Bool.not_false, Bool.and_eq_true, Bool.or_eq_true, Bool.or_eq_false_iff, beq_iff_eq, beq_eq_false_iff_ne, ne_eq, Int.not_lt, Int.not_le, Decidable.not_not] at hc23
  refine g_skip ?_
  refine g_next hK1 ?_
  refine g_seq (fun K4 hK4 => ?_)
  refine g_region ?_
  refine g_step rfl (s_call rfl rfl rfl (pushed_ok _) (fun _ h => h.elim) ?_)
  rintro n1 _ effs1 hn1 hdom1 ⟨p, r, hp1, hr1, hpr1, rfl, rfl⟩ hok1
  have hw_p : w0.heap.size ≤ p := Nat.le_trans hn1 hp1
  have hw_r : w0.heap.size ≤ r := Nat.le_trans hn1 hr1
  have hz_p := hdom1 _ hp1
  have hz_r := hdom1 _ hr1
  have hI : InIs ((AHeap.set (fun _ => none) r (bmRow [])).set p (.box (.agg [.map r]))) p r (fun _ => none) := ⟨[], _, PA.empty hpr1, fun _ _ h => by cases h⟩
  generalize hh0 : (AHeap.set (fun _ => none) r (bmRow [])).set p (.box (.agg [.map r])) = h at hI
  have hab : ∀ b, h b ≠ none → w0.heap.size ≤ b := empty_above hh0 hw_p hw_r
  have hs : h.sub (setAll H [(p, .box (.agg [.map r])), (r, bmRow [])]) := by rw [← hh0]; exact empty_sub
  have hs_H : H.sub (setAll H [(p, .box (.agg [.map r])), (r, bmRow [])]) := sub_set_free _ (sub_set_free _ (AHeap.sub_refl _) hz_r) hz_p
  refine g_step rfl (s_val (v_assign rfl) rfl rfl ?_)
  refine g_nil ?_
  refine g_next hK4 ?_
  refine g_seq (fun K5 hK5 => ?_)
  refine g_region ?_
  refine g_step rfl (s_makeO (n := 2) (za := (.agg [(.bool false), (.int .i64 0), .nil0])) ty81 ty85 rfl rfl rfl rfl rfl rfl (by omega) (by omega) ?_)
  intro r26 hr26 hw26
  refine g_step rfl (s_val (v_assign rfl) rfl rfl ?_)
  refine g_nil ?_
  refine g_next hK5 ?_
  refine g_seq (fun K6 hK6 => ?_)
  refine g_seq (fun K7 hK7 => ?_)
  refine g_region ?_
  refine g_wkrow (m := [ip0, ip0].map encIP) (AHeap.get_set _ _ _) rfl ?_
  rw [AHeap.set_set]
  have hhr : h r26 = none := sub_none hs hr26
  have hHr26 : H r26 = none := sub_none hs_H hr26
  refine g_step rfl (s_val (v_assign rfl) rfl rfl ?_)
  refine g_nil ?_
  refine g_next hK7 ?_
  refine g_block ?_
  first | refine g_keep [0, 1, 2, 7, 8, 9] [] [] (keep_cons rfl (keep_cons rfl (keep_cons rfl (keep_cons rfl (keep_cons rfl (keep_cons rfl keep_nil)))))) lkeep_nil keep_nil rfl ?_ | refine g_keep [0, 1, 2, 7, 8, 9] [] [] rfl rfl rfl rfl ?_
  refine g_loop (fun n env L B G => ∃ (k : Nat) (o : Int → Option Gt) (mf : Int → IP) (h : AHeap), k ≤ l.length ∧ n = l.length - k ∧ env = [(0, .imm (l.map encIA)), (1, .int .i64 life), (2, .int .i64 epoch), (7, .box p 0), (8, .own r26 3 0 2), (9, .int .i64 (k : Int))] ∧ L = [] ∧ B = [] ∧ InIs h p r o ∧ h.sub G ∧ (∀ b, h b ≠ none → w0.heap.size ≤ b) ∧ H.sub G ∧ h r26 = none ∧ G r26 = some (.row 3 ([mf 0, mf 1].map encIP)) ∧ Rel (mf 0) (o 0) ∧ Rel (mf 1) (o 1)) (l.length) ⟨0, (fun _ => none), (fun _ => ip0), h, Nat.zero_le _, rfl, rfl, rfl, rfl, ⟨hI, sub_set' hs hhr, hab, sub_set' hs_H hHr26, hhr, AHeap.get_set _ _ _, Rel.zero, Rel.zero⟩⟩ (fun n env L B G hI => ?_)
  obtain ⟨k, o, mf, h, hk, rfl, rfl, rfl, rfl, hI, hs, hab, hs_H, hhr, hrm, hR0, hR1⟩ := hI
  refine g_seq (fun K8 hK8 => ?_)
  refine g_seq (fun K9 hK9 => ?_)
  refine g_region ?_
  refine g_step rfl (s_val (v_move rfl) rfl rfl ?_)
  refine g_step rfl (s_val (v_move rfl) rfl rfl ?_)
  refine g_step rfl (s_val (v_len ty78 rfl (by first | rfl | assumption) (by first | exact List.length_map .. | rfl)) rfl rfl ?_)
  refine g_step rfl (s_val (v_lss rfl rfl) rfl rfl ?_)
  refine g_nil ?_
  refine g_next hK9 ?_
  refine g_cond rfl (fun hc30 => ?_) (fun hc30 => ?_)
  ·
   try simp only [decide_eq_true_eq, decide_eq_false_iff_not, Bool.not_eq_true', Bool.not_eq_false', Bool.not_eq_eq_eq_not, Bool.not_true, Bool.not_false, Bool.and_eq_true, Bool.or_eq_true, Bool.or_eq_false_iff, beq_iff_eq, beq_eq_false_iff_ne, ne_eq, Int.not_lt, Int.not_le, Decidable.not_not] at hc30
   obtain ⟨x, hx⟩ := get_some (l := l) (k := k) (by omega)
   have hxm := mem_get hx
   refine g_skip ?_
   refine g_next hK8 ?_
   refine g_seq (fun K10 hK10 => ?_)
   refine g_block ?_
   refine g_seq (fun K11 hK11 => ?_)
   refine g_region ?_
   refine g_step rfl (s_val (v_move rfl) rfl rfl ?_)
   refine g_step rfl (s_val (v_move rfl) rfl rfl ?_)
   refine g_step rfl (s_val (v_indexAddr ty78 ty83 rfl rfl (by first | rfl | assumption) (by first | rfl | exact (rfl : (0 : Int) = ((0 : Nat) : Int)) | exact (Int.toNat_of_nonneg (by omega)).symm) (by first | assumption | exact map_get (by assumption) | rfl) rfl) rfl rfl ?_)
   refine g_step rfl (s_val (by first | exact v_load_elt ty83 rfl rfl (by first | rfl | assumption) (by first | assumption | exact map_get (by assumption) | rfl) rfl rfl | exact v_load_box_all ty83 rfl rfl (by assumption) rfl rfl | exact v_load_part (cs := [_, _, _, _, _]) ty83 rfl rfl (by first | rfl | assumption) (by first | assumption | exact map_get (by assumption) | rfl) rfl rfl rfl | exact v_load_box_part (cs := [_, _, _, _, _]) ty83 rfl rfl (by assumption) rfl rfl rfl) rfl rfl ?_)
   refine g_step rfl (s_alloc (av := (.agg [(.int .i64 0), (.int .i64 0), (.int .i64 0), (.int .i64 0), .nil0])) ty83 rfl rfl rfl rfl ?_)
   refine g_step rfl (s_store_all ty83 rfl rfl rfl rfl rfl rfl ?_)
   refine g_nil ?_
   refine g_next hK11 ?_
   refine g_seq (fun K12 hK12 => ?_)
   refine g_seq (fun K13 hK13 => ?_)
   refine g_region ?_
   refine g_step rfl (s_fieldAddr ty83 fo83_4 ty64 rfl rfl ?_)
   refine g_step rfl (s_val (v_loadl ty64 rfl rfl rfl rfl) rfl rfl ?_)
   refine g_step rfl (s_callp rfl rfl rfl (fewL_ok x.recs _ _ rfl (hh x hxm) (hb x hxm)) ?_)
   rintro _ rfl
   refine g_step rfl (s_val (v_not rfl) rfl rfl ?_)
   refine g_step rfl (s_val (v_move rfl) rfl rfl ?_)
   refine g_split 41 rfl (fun hg41 => ?_) (fun hg41 => ?_)
   ·
    try simp only [decide_eq_true_eq, decide_eq_false_iff_not, Bool.not_eq_true', Bool.not_eq_false', Bool.not_eq_eq_eq_not, Bool.not_true, Bool.not_false, Bool.and_eq_true, Bool.or_eq_true, Bool.or_eq_false_iff, beq_iff_eq, beq_eq_false_iff_ne, ne_eq, Int.not_lt, Int.not_le, Decidable.not_not] at hg41
    refine g_step_no (j := 4) (t := 41) rfl rfl rfl rfl rfl rfl rfl ?_
    refine g_step_no (j := 4) (t := 41) rfl rfl rfl rfl rfl rfl rfl ?_
    refine g_step_no (j := 4) (t := 41) rfl rfl rfl rfl rfl rfl rfl ?_
    refine g_step rfl (s_val (v_pick_t rfl rfl) rfl rfl ?_)
    refine g_step rfl (s_val (v_move rfl) rfl rfl ?_)
    refine g_step_no (j := 9) (t := 46) rfl rfl rfl rfl rfl rfl rfl ?_
    refine g_step_no (j := 9) (t := 46) rfl rfl rfl rfl rfl rfl rfl ?_
    refine g_step_no (j := 9) (t := 46) rfl rfl rfl rfl rfl rfl rfl ?_
    refine g_step rfl (s_val (v_pick_t rfl rfl) rfl rfl ?_)
    refine g_nil ?_
    refine g_next hK13 ?_
    first | refine g_keep [0, 1, 2, 7, 8, 9, 50] [10] [10] (keep_cons rfl (keep_cons rfl (keep_cons rfl (keep_cons rfl (keep_cons rfl (keep_cons rfl (keep_cons rfl keep_nil))))))) (lkeep_cons rfl lkeep_nil) (keep_cons rfl keep_nil) rfl ?_ | refine g_keep [0, 1, 2, 7, 8, 9, 50] [10] [10] rfl rfl rfl rfl ?_
    refine g_cond rfl (fun _ => ?_) (fun h => by cases h)
    refine g_seq (fun K14 hK14 => ?_)
    refine g_region ?_
    refine g_step rfl (s_callp rfl rfl rfl (awake26_ok _) ?_)
    rintro _ rfl
    refine g_step rfl (s_val (v_assign rfl) rfl rfl ?_)
    refine g_nil ?_
    refine g_next hK14 ?_
    refine g_ret ?_
    refine g_then_ret ?_
    refine g_block_ret ?_
    refine g_then_ret ?_
    refine g_then_ret ?_
    refine g_block_ret ?_
    refine g_then_ret ?_
    refine g_end1 (.inl rfl) Try.results8 (.tmp rfl) [] (ASub.refl _) (by first | exact hs_H | exact hs_H0 | exact AHeap.sub_refl _) (fun p hp => by cases hp) ⟨rfl, ?_⟩
    rfl
   ·
    try simp only [decide_eq_true_eq, decide_eq_false_iff_not, Bool.not_eq_true', Bool.not_eq_false', Bool.not_eq_eq_eq_not, Bool.not_true, Bool.not_false, Bool.and_eq_true, Bool.or_eq_true, Bool.or_eq_false_iff, beq_iff_eq, beq_eq_false_iff_ne, ne_eq, Int.not_lt, Int.not_le, Decidable.not_not] at hg41
    refine g_step_yes (j := 4) (t := 41) rfl rfl rfl rfl (s_fieldAddr ty83 fo83_0 ty3 rfl rfl ?_)
    refine g_step_yes (j := 4) (t := 41) rfl rfl rfl rfl (s_val (v_loadl ty3 rfl rfl rfl rfl) rfl rfl ?_)
    refine g_step_yes (j := 4) (t := 41) rfl rfl rfl rfl (s_val (v_lss rfl rfl) rfl rfl ?_)
    refine g_step rfl (s_val (v_pick_f rfl rfl) rfl rfl ?_)
    refine g_step rfl (s_val (v_move rfl) rfl rfl ?_)
    refine g_split 46 rfl (fun hg46 => ?_) (fun hg46 => ?_)
    ·
     try simp only [decide_eq_true_eq, decide_eq_false_iff_not, Bool.not_eq_true', Bool.not_eq_false', Bool.not_eq_eq_eq_not, Bool.not_true, Bool.not_false, Bool.and_eq_true, Bool.or_eq_true, Bool.or_eq_false_iff, beq_iff_eq, beq_eq_false_iff_ne, ne_eq, Int.not_lt, Int.not_le, Decidable.not_not] at hg46
     refine g_step_no (j := 9) (t := 46) rfl rfl rfl rfl rfl rfl rfl ?_
     refine g_step_no (j := 9) (t := 46) rfl rfl rfl rfl rfl rfl rfl ?_
     refine g_step_no (j := 9) (t := 46) rfl rfl rfl rfl rfl rfl rfl ?_
     refine g_step rfl (s_val (v_pick_t rfl rfl) rfl rfl ?_)
     refine g_nil ?_
     refine g_next hK13 ?_
     first | refine g_keep [0, 1, 2, 7, 8, 9, 50] [10] [10] (keep_cons rfl (keep_cons rfl (keep_cons rfl (keep_cons rfl (keep_cons rfl (keep_cons rfl (keep_cons rfl keep_nil))))))) (lkeep_cons rfl lkeep_nil) (keep_cons rfl keep_nil) rfl ?_ | refine g_keep [0, 1, 2, 7, 8, 9, 50] [10] [10] rfl rfl rfl rfl ?_
     refine g_cond rfl (fun _ => ?_) (fun h => by cases h)
     refine g_seq (fun K15 hK15 => ?_)
     refine g_region ?_
     refine g_step rfl (s_callp rfl rfl rfl (awake26_ok _) ?_)
     rintro _ rfl
     refine g_step rfl (s_val (v_assign rfl) rfl rfl ?_)
     refine g_nil ?_
     refine g_next hK15 ?_
     refine g_ret ?_
     refine g_then_ret ?_
     refine g_block_ret ?_
     refine g_then_ret ?_
     refine g_then_ret ?_
     refine g_block_ret ?_
     refine g_then_ret ?_
     refine g_end1 (.inl rfl) Try.results8 (.tmp rfl) [] (ASub.refl _) (by first | exact hs_H | exact hs_H0 | exact AHeap.sub_refl _) (fun p hp => by cases hp) ⟨rfl, ?_⟩
     rfl
    ·
     try simp only [decide_eq_true_eq, decide_eq_false_iff_not, Bool.not_eq_true', Bool.not_eq_false', Bool.not_eq_eq_eq_not, Bool.not_true, Bool.not_false, Bool.and_eq_true, Bool.or_eq_true, Bool.or_eq_false_iff, beq_iff_eq, beq_eq_false_iff_ne, ne_eq, Int.not_lt, Int.not_le, Decidable.not_not] at hg46
     refine g_step_yes (j := 9) (t := 46) rfl rfl rfl rfl (s_fieldAddr ty83 fo83_0 ty3 rfl rfl ?_)
     refine g_step_yes (j := 9) (t := 46) rfl rfl rfl rfl (s_val (v_loadl ty3 rfl rfl rfl rfl) rfl rfl ?_)
     refine g_step_yes (j := 9) (t := 46) rfl rfl rfl rfl (s_val (v_gtr rfl rfl) rfl rfl ?_)
     refine g_step rfl (s_val (v_pick_f rfl rfl) rfl rfl ?_)
     refine g_nil ?_
     refine g_next hK13 ?_
     first | refine g_keep [0, 1, 2, 7, 8, 9, 50] [10] [10] (keep_cons rfl (keep_cons rfl (keep_cons rfl (keep_cons rfl (keep_cons rfl (keep_cons rfl (keep_cons rfl keep_nil))))))) (lkeep_cons rfl lkeep_nil) (keep_cons rfl keep_nil) rfl ?_ | refine g_keep [0, 1, 2, 7, 8, 9, 50] [10] [10] rfl rfl rfl rfl ?_
     refine g_cond rfl (fun hc50 => ?_) (fun hc50 => ?_)
     ·
      try simp only [decide_eq_true_eq, decide_eq_false_iff_not, Bool.not_eq_true', Bool.not_eq_false', Bool.not_eq_eq_eq_not, Bool.not_true, Bool.not_false, Bool.and_eq_true, Bool.or_eq_true, Bool.or_eq_false_iff, beq_iff_eq, beq_eq_false_iff_ne, ne_eq, Int.not_lt, Int.not_le, Decidable.not_not] at hc50
      refine g_seq (fun K16 hK16 => ?_)
      refine g_region ?_
      refine g_step rfl (s_callp rfl rfl rfl (awake26_ok _) ?_)
      rintro _ rfl
      refine g_step rfl (s_val (v_assign rfl) rfl rfl ?_)
      refine g_nil ?_
      refine g_next hK16 ?_
      refine g_ret ?_
      refine g_then_ret ?_
      refine g_block_ret ?_
      refine g_then_ret ?_
      refine g_then_ret ?_
      refine g_block_ret ?_
      refine g_then_ret ?_
      refine g_end1 (.inl rfl) Try.results8 (.tmp rfl) [] (ASub.refl _) (by first | exact hs_H | exact hs_H0 | exact AHeap.sub_refl _) (fun p hp => by cases hp) ⟨rfl, ?_⟩
      rfl
     ·
      try simp only [decide_eq_true_eq, decide_eq_false_iff_not, Bool.not_eq_true', Bool.not_eq_false', Bool.not_eq_eq_eq_not, Bool.not_true, Bool.not_false, Bool.and_eq_true, Bool.or_eq_true, Bool.or_eq_false_iff, beq_iff_eq, beq_eq_false_iff_ne, ne_eq, Int.not_lt, Int.not_le, Decidable.not_not] at hc50
      obtain ⟨hn20, hns⟩ := fewL_small (l := x.recs) (by simpa using hg41)
      obtain ⟨j, hj⟩ := Int.eq_ofNat_of_zero_le (show 0 ≤ x.peer by omega)
      have hle : x.peer ≤ 1 := by omega
      have hpe := pairI_at mf hj hle
      have hSr := pair_rel hR0 hR1 (show 0 ≤ x.peer by omega) hle
      refine g_skip ?_
      refine g_next hK12 ?_
      refine g_seq (fun K17 hK17 => ?_)
      refine g_draw (n := 13) (fun j => !([11] : List Nat).contains j) rfl rfl ?_
      refine m_take 0 false rfl rfl (by kernel_rfl) (by kernel_rfl) (by kernel_rfl) (fun _ _ _ _ h => h) (v_move rfl) rfl rfl ?_
      refine m_takel 1 rfl rfl (by kernel_rfl) (by kernel_rfl) (by kernel_rfl) (fun _ _ _ _ h => h) (vl_fieldAddr ty83 fo83_0 ty3 rfl) rfl rfl ?_
      refine m_take 2 true rfl rfl (by kernel_rfl) (by kernel_rfl) (by kernel_rfl) (fun _ _ _ _ h => h) (v_loadl ty3 rfl rfl rfl rfl) rfl rfl ?_
      refine m_take 3 false rfl rfl (by kernel_rfl) (by kernel_rfl) (by kernel_rfl) (fun _ _ _ _ h => h) (v_indexAddr ty81 ty85 rfl rfl (AV.view_own_all hrm rfl) hj hpe rfl) rfl rfl ?_
      refine m_take 4 true rfl rfl (by kernel_rfl) (by kernel_rfl) (by kernel_rfl) (fun _ _ _ _ h => h) (by first | exact v_load_elt ty85 rfl rfl (AV.view_own_all hrm rfl) hpe rfl rfl | exact v_load_box_all ty85 rfl rfl (by assumption) rfl rfl | exact v_load_part (cs := [_, _, _]) ty85 rfl rfl (AV.view_own_all hrm rfl) hpe rfl rfl rfl | exact v_load_box_part (cs := [_, _, _]) ty85 rfl rfl (by assumption) rfl rfl rfl) rfl rfl ?_
      refine m_take 5 true rfl rfl (by kernel_rfl) (by kernel_rfl) (by kernel_rfl) (fun _ _ _ _ h => h) (by first | exact v_loadl_all ty83 rfl rfl rfl rfl rfl | exact v_loadl_part (cs := [_, _, _, _, _]) ty83 rfl rfl rfl rfl rfl rfl) rfl rfl ?_
      refine m_all (is := [6, 10]) (by kernel_rfl) rfl (fun _ _ _ => trivial) (fun i hi => ?_)
      rcases (by simpa using hi : i = 6 ∨ i = 10) with rfl | rfl
      ·
       refine ⟨_, rfl, .inl ⟨rfl, ?_⟩⟩
       refine sm_callp rfl rfl rfl (lkeep_ok (mf x.peer) x hSr.nodup (by omega) hns _) ?_
       rintro _ ⟨p', ok, rfl, hLK⟩
       obtain ⟨hkeq, hrel⟩ := rel_step hSr hLK (by omega) hns
       refine m_take 7 false rfl rfl (by kernel_rfl) (by kernel_rfl) (by kernel_rfl) (fun _ _ _ _ h => h) (v_move rfl) rfl rfl ?_
       refine m_take 8 false rfl rfl (by kernel_rfl) (by kernel_rfl) (by kernel_rfl) (fun _ _ _ _ h => h) (v_extract rfl rfl) rfl rfl ?_
       refine m_take 9 false rfl rfl (by kernel_rfl) (by kernel_rfl) (by kernel_rfl) (fun _ _ _ _ h => h) (v_extract rfl rfl) rfl rfl ?_
       refine m_one 10 (by kernel_rfl) rfl rfl ?_
       refine sm_alloc (av := (.agg [(.bool false), (.int .i64 0), .nil0])) ty85 rfl rfl rfl rfl ?_
       refine m_one 11 (by kernel_rfl) rfl rfl ?_
       refine sm_any rfl (s_store_all ty85 rfl rfl rfl rfl rfl rfl ?_)
       refine m_take 12 false rfl rfl (by kernel_rfl) (by kernel_rfl) (by kernel_rfl) (fun _ _ _ _ h => h) (v_assign rfl) rfl rfl ?_
       refine m_done (by kernel_rfl) ?_
       refine g_next hK17 ?_
       refine g_seq (fun K18 hK18 => ?_)
       refine g_seq (fun K19 hK19 => ?_)
       refine g_region ?_
       refine g_step rfl (s_val (v_move rfl) rfl rfl ?_)
       refine g_step rfl (s_fieldAddr ty83 fo83_0 ty3 rfl rfl ?_)
       refine g_step rfl (s_val (v_loadl ty3 rfl rfl rfl rfl) rfl rfl ?_)
       refine g_step rfl (s_fieldAddr ty83 fo83_1 ty3 rfl rfl ?_)
       refine g_step rfl (s_val (v_loadl ty3 rfl rfl rfl rfl) rfl rfl ?_)
       refine g_step rfl (s_fieldAddr ty83 fo83_2 ty3 rfl rfl ?_)
       refine g_step rfl (s_val (v_loadl ty3 rfl rfl rfl rfl) rfl rfl ?_)
       refine g_step rfl (s_fieldAddr ty83 fo83_3 ty3 rfl rfl ?_)
       refine g_step rfl (s_val (v_loadl ty3 rfl rfl rfl rfl) rfl rfl ?_)
       refine g_step rfl (s_fieldAddr ty83 fo83_4 ty64 rfl rfl ?_)
       refine g_step rfl (s_val (v_loadl ty64 rfl rfl rfl rfl) rfl rfl ?_)
       refine g_step rfl (s_call rfl rfl rfl (iKeep_ok h p r o x.peer x.life x.epoch x.base x.recs (by omega) hns _ hI hs hSr.ok) (fun b hb => .inr (hab b hb)) ?_)
       rintro n3 v3 effs3 hn3 hdom3 ⟨rfl, h1, hE3, hI1⟩ hok3
       rw [hkeq]
       have hs1 := hE3.within hs
       have hab1 := hE3.above hn3 hab
       have hs_H1 := hE3.frame hdom3 hs_H (fun b hb => hw0 b (hab b hb))
       obtain ⟨hrm1, hhr1⟩ := hE3.keep_one hdom3 hrm hhr
       generalize hG1 : setAll G effs3 = G1
       rw [hG1] at hs1 hs_H1 hrm1
       refine g_step rfl (s_val (v_move rfl) rfl rfl ?_)
       refine g_step rfl (s_val (v_bool_neq ty4 rfl rfl) rfl rfl ?_)
       refine g_nil ?_
       refine g_next hK19 ?_
       first | refine g_keep [0, 1, 2, 7, 8, 9, 75] [10, 11] [10, 11] (keep_cons rfl (keep_cons rfl (keep_cons rfl (keep_cons rfl (keep_cons rfl (keep_cons rfl (keep_cons rfl keep_nil))))))) (lkeep_cons rfl (lkeep_cons rfl lkeep_nil)) (keep_cons rfl (keep_cons rfl keep_nil)) rfl ?_ | refine g_keep [0, 1, 2, 7, 8, 9, 75] [10, 11] [10, 11] rfl rfl rfl rfl ?_
       refine g_cond rfl (fun hc75 => ?_) (fun hc75 => ?_)
       · exfalso; (try simp only [decide_eq_true_eq, decide_eq_false_iff_not, Bool.not_eq_true', Bool.not_eq_false', Bool.not_eq_eq_eq_not, Bool.not_true, Bool.not_false, Bool.and_eq_true, Bool.or_eq_true, Bool.or_eq_false_iff, beq_iff_eq, beq_eq_false_iff_ne, ne_eq, Int.not_lt, Int.not_le, Decidable.not_not] at hc75); simp at hc75
       ·
        try simp only [decide_eq_true_eq, decide_eq_false_iff_not, Bool.not_eq_true', Bool.not_eq_false', Bool.not_eq_eq_eq_not, Bool.not_true, Bool.not_false, Bool.and_eq_true, Bool.or_eq_true, Bool.or_eq_false_iff, beq_iff_eq, beq_eq_false_iff_ne, ne_eq, Int.not_lt, Int.not_le, Decidable.not_not] at hc75
        refine g_skip ?_
        refine g_next hK18 ?_
        refine g_seq (fun K20 hK20 => ?_)
        refine g_region ?_
        refine g_step rfl (s_val (v_move rfl) rfl rfl ?_)
        refine g_step rfl (s_fieldAddr ty83 fo83_0 ty3 rfl rfl ?_)
        refine g_step rfl (s_val (v_loadl ty3 rfl rfl rfl rfl) rfl rfl ?_)
        refine g_step rfl (s_val (by first | exact v_loadl_all ty85 rfl rfl rfl rfl rfl | exact v_loadl_part (cs := [_, _, _]) ty85 rfl rfl rfl rfl rfl rfl) rfl rfl ?_)
        refine g_step rfl (s_val (v_indexAddr ty81 ty85 rfl rfl (AV.view_own_all hrm1 rfl) hj hpe rfl) rfl rfl ?_)
        refine g_step rfl (s_store_row (k := j) (off := 0) (old := encIP (mf x.peer)) (new := encIP p') ty85 rfl rfl hrm1 (by rw [Nat.zero_add]; exact hpe) rfl rfl rfl rfl (.inr hw26) ?_)
        rw [Nat.zero_add j, pairI_set mf p' hj hle]
        refine g_nil ?_
        refine g_next hK20 ?_
        refine g_seq (fun K21 hK21 => ?_)
        refine g_region ?_
        have hs2 := sub_set' (x := (.row 3 ([(upd mf x.peer p') 0, (upd mf x.peer p') 1].map encIP))) hs1 hhr1
        have hs_H2 := sub_set' (x := (.row 3 ([(upd mf x.peer p') 0, (upd mf x.peer p') 1].map encIP))) hs_H1 hHr26
        have hrm2 := AHeap.get_set G1 r26 (.row 3 ([(upd mf x.peer p') 0, (upd mf x.peer p') 1].map encIP))
        generalize hG2 : AHeap.set G1 r26 (.row 3 ([(upd mf x.peer p') 0, (upd mf x.peer p') 1].map encIP)) = G2
        rw [hG2] at hs2 hs_H2 hrm2
        refine g_step rfl (s_val (v_assign rfl) rfl rfl ?_)
        refine g_nil ?_
        refine g_next hK21 ?_
        refine g_block ?_
        first | refine g_keep [0, 1, 2, 7, 8, 9, 13] [10, 11] [10, 11] (keep_cons rfl (keep_cons rfl (keep_cons rfl (keep_cons rfl (keep_cons rfl (keep_cons rfl (keep_cons rfl keep_nil))))))) (lkeep_cons rfl (lkeep_cons rfl lkeep_nil)) (keep_cons rfl (keep_cons rfl keep_nil)) rfl ?_ | refine g_keep [0, 1, 2, 7, 8, 9, 13] [10, 11] [10, 11] rfl rfl rfl rfl ?_
        refine g_loop (fun n env L B G => ∃ (i : Nat) , i ≤ p'.rows.length ∧ n = p'.rows.length - i ∧ env = [(0, .imm (l.map encIA)), (1, .int .i64 life), (2, .int .i64 epoch), (7, .box p 0), (8, .own r26 3 0 2), (9, .int .i64 (k : Int)), (13, .int .i64 (i : Int))] ∧ L = [(10, 10, 0), (11, 11, 0)] ∧ B = [(10, (encIA x)), (11, (encIP p'))] ∧ G2 = G) (p'.rows.length) ⟨0, Nat.zero_le _, rfl, rfl, rfl, rfl, rfl⟩ (fun n env L B G hI => ?_)
        obtain ⟨i, hi, rfl, rfl, rfl, rfl, rfl⟩ := hI
        have hlp := hrel.nodup.2
        refine g_seq (fun K22 hK22 => ?_)
        refine g_seq (fun K23 hK23 => ?_)
        refine g_region ?_
        refine g_step rfl (s_val (v_move rfl) rfl rfl ?_)
        refine g_step rfl (s_fieldAddr ty85 fo85_2 ty70 rfl rfl ?_)
        refine g_step rfl (s_val (v_loadl ty70 rfl rfl rfl rfl) rfl rfl ?_)
        refine g_step rfl (s_val (v_len ty70 rfl (by first | rfl | assumption) (by first | exact List.length_map .. | rfl)) rfl rfl ?_)
        refine g_step rfl (s_val (v_lss rfl rfl) rfl rfl ?_)
        refine g_nil ?_
        refine g_next hK23 ?_
        refine g_cond rfl (fun hc85 => ?_) (fun hc85 => ?_)
        ·
         try simp only [decide_eq_true_eq, decide_eq_false_iff_not, Bool.not_eq_true', Bool.not_eq_false', Bool.not_eq_eq_eq_not, Bool.not_true, Bool.not_false, Bool.and_eq_true, Bool.or_eq_true, Bool.or_eq_false_iff, beq_iff_eq, beq_eq_false_iff_ne, ne_eq, Int.not_lt, Int.not_le, Decidable.not_not] at hc85
         obtain ⟨w, hw⟩ := get_some (l := p'.rows) (k := i) (by omega)
         have hwm := mem_get hw
         have hRw := rel_row hrel hwm
         have hlp := hrel.nodup.2
         refine g_skip ?_
         refine g_next hK22 ?_
         refine g_seq (fun K24 hK24 => ?_)
         refine g_block ?_
         refine g_seq (fun K25 hK25 => ?_)
         refine g_draw (n := 17) (fun j => !([] : List Nat).contains j) rfl rfl ?_
         refine m_take 0 false rfl rfl (by kernel_rfl) (by kernel_rfl) (by kernel_rfl) (fun _ _ _ _ h => h) (v_move rfl) rfl rfl ?_
         refine m_takel 1 rfl rfl (by kernel_rfl) (by kernel_rfl) (by kernel_rfl) (fun _ _ _ _ h => h) (vl_fieldAddr ty83 fo83_0 ty3 rfl) rfl rfl ?_
         refine m_take 2 true rfl rfl (by kernel_rfl) (by kernel_rfl) (by kernel_rfl) (fun _ _ _ _ h => h) (v_loadl ty3 rfl rfl rfl rfl) rfl rfl ?_
         refine m_takel 3 rfl rfl (by kernel_rfl) (by kernel_rfl) (by kernel_rfl) (fun _ _ _ _ h => h) (vl_fieldAddr ty85 fo85_1 ty3 rfl) rfl rfl ?_
         refine m_take 4 true rfl rfl (by kernel_rfl) (by kernel_rfl) (by kernel_rfl) (fun _ _ _ _ h => h) (v_loadl ty3 rfl rfl rfl rfl) rfl rfl ?_
         refine m_takel 5 rfl rfl (by kernel_rfl) (by kernel_rfl) (by kernel_rfl) (fun _ _ _ _ h => h) (vl_fieldAddr ty85 fo85_2 ty70 rfl) rfl rfl ?_
         refine m_take 6 true rfl rfl (by kernel_rfl) (by kernel_rfl) (by kernel_rfl) (fun _ _ _ _ h => h) (v_loadl ty70 rfl rfl rfl rfl) rfl rfl ?_
         refine m_take 7 false rfl rfl (by kernel_rfl) (by kernel_rfl) (by kernel_rfl) (fun _ _ _ _ h => h) (v_move rfl) rfl rfl ?_
         refine m_take 8 false rfl rfl (by kernel_rfl) (by kernel_rfl) (by kernel_rfl) (fun _ _ _ _ h => h) (v_indexAddr ty70 ty69 rfl rfl (by first | rfl | assumption) (by first | rfl | exact (rfl : (0 : Int) = ((0 : Nat) : Int)) | exact (Int.toNat_of_nonneg (by omega)).symm) (map_get hw) rfl) rfl rfl ?_
         refine m_take 9 false rfl rfl (by kernel_rfl) (by kernel_rfl) (by kernel_rfl) (fun _ _ _ _ h => h) (by first | exact v_fieldAddr ty69 fo69_0 ty3 rfl | exact v_fieldAddr_box ty69 fo69_0 ty3 rfl) rfl rfl ?_
         refine m_take 10 true rfl rfl (by kernel_rfl) (by kernel_rfl) (by kernel_rfl) (fun _ _ _ _ h => h) (by first | exact v_load ty3 rfl rfl (by first | rfl | assumption) (map_get hw) rfl | exact v_load_box ty3 rfl rfl (by assumption) rfl) rfl rfl ?_
         refine m_one 11 (by kernel_rfl) rfl rfl ?_
         refine sm_callp rfl rfl rfl (iFind_ok h1 p r (upd o x.peer (keepF (o x.peer) x.life x.epoch x.base x.recs)) x.peer p'.life w.epoch _ hI1 hs2 (by rw [upd_at]; exact hrel.ok)) ?_
         rintro _ rfl
         rw [upd_at, find_rel hrel hwm]
         refine m_take 12 false rfl rfl (by kernel_rfl) (by kernel_rfl) (by kernel_rfl) (fun _ _ _ _ h => h) (v_move rfl) rfl rfl ?_
         refine m_take 13 false rfl rfl (by kernel_rfl) (by kernel_rfl) (by kernel_rfl) (fun _ _ _ _ h => h) (v_extract rfl rfl) rfl rfl ?_
         refine m_take 14 false rfl rfl (by kernel_rfl) (by kernel_rfl) (by kernel_rfl) (fun _ _ _ _ h => h) (v_extract rfl rfl) rfl rfl ?_
         refine m_take 15 false rfl rfl (by kernel_rfl) (by kernel_rfl) (by kernel_rfl) (fun _ _ _ _ h => h) (v_assign rfl) rfl rfl ?_
         refine m_take 16 false rfl rfl (by kernel_rfl) (by kernel_rfl) (by kernel_rfl) (fun _ _ _ _ h => h) (v_assign rfl) rfl rfl ?_
         refine m_done (by kernel_rfl) ?_
         refine g_next hK25 ?_
         first | refine g_keep [0, 1, 2, 7, 8, 9, 13, 14, 15] [10, 11] [10, 11] (keep_cons rfl (keep_cons rfl (keep_cons rfl (keep_cons rfl (keep_cons rfl (keep_cons rfl (keep_cons rfl (keep_cons rfl (keep_cons rfl keep_nil))))))))) (lkeep_cons rfl (lkeep_cons rfl lkeep_nil)) (keep_cons rfl (keep_cons rfl keep_nil)) rfl ?_ | refine g_keep [0, 1, 2, 7, 8, 9, 13, 14, 15] [10, 11] [10, 11] rfl rfl rfl rfl ?_
         refine g_seq (fun K26 hK26 => ?_)
         refine g_region ?_
         refine g_step rfl (s_val (v_move rfl) rfl rfl ?_)
         refine g_step rfl (s_val (v_not rfl) rfl rfl ?_)
         refine g_step rfl (s_val (v_move rfl) rfl rfl ?_)
         refine g_split 105 rfl (fun hg105 => ?_) (fun hg105 => ?_)
         · exfalso; (try simp only [decide_eq_true_eq, decide_eq_false_iff_not, Bool.not_eq_true', Bool.not_eq_false', Bool.not_eq_eq_eq_not, Bool.not_true, Bool.not_false, Bool.and_eq_true, Bool.or_eq_true, Bool.or_eq_false_iff, beq_iff_eq, beq_eq_false_iff_ne, ne_eq, Int.not_lt, Int.not_le, Decidable.not_not] at hg105); simp at hg105
         ·
          try simp only [decide_eq_true_eq, decide_eq_false_iff_not, Bool.not_eq_true', Bool.not_eq_false', Bool.not_eq_eq_eq_not, Bool.not_true, Bool.not_false, Bool.and_eq_true, Bool.or_eq_true, Bool.or_eq_false_iff, beq_iff_eq, beq_eq_false_iff_ne, ne_eq, Int.not_lt, Int.not_le, Decidable.not_not] at hg105
          refine g_step_yes (j := 2) (t := 105) rfl rfl rfl rfl (s_val (v_move rfl) rfl rfl ?_)
          refine g_step_yes (j := 2) (t := 105) rfl rfl rfl rfl (s_fieldAddr ty85 fo85_2 ty70 rfl rfl ?_)
          refine g_step_yes (j := 2) (t := 105) rfl rfl rfl rfl (s_val (v_loadl ty70 rfl rfl rfl rfl) rfl rfl ?_)
          refine g_step_yes (j := 2) (t := 105) rfl rfl rfl rfl (s_val (v_move rfl) rfl rfl ?_)
          refine g_step_yes (j := 2) (t := 105) rfl rfl rfl rfl (s_val (v_indexAddr ty70 ty69 rfl rfl (by first | rfl | assumption) (by first | rfl | exact (rfl : (0 : Int) = ((0 : Nat) : Int)) | exact (Int.toNat_of_nonneg (by omega)).symm) (map_get hw) rfl) rfl rfl ?_)
          refine g_step_yes (j := 2) (t := 105) rfl rfl rfl rfl (s_val (by first | exact v_fieldAddr ty69 fo69_1 ty64 rfl | exact v_fieldAddr_box ty69 fo69_1 ty64 rfl) rfl rfl ?_)
          refine g_step_yes (j := 2) (t := 105) rfl rfl rfl rfl (s_val (by first | exact v_load ty64 rfl rfl (by first | rfl | assumption) (map_get hw) rfl | exact v_load_box ty64 rfl rfl (by assumption) rfl) rfl rfl ?_)
          refine g_step_yes (j := 2) (t := 105) rfl rfl rfl rfl (s_callp rfl rfl rfl (allAlike_ok w.recs w.recs _ _ _ rfl rfl (Nat.le_trans hRw.1 (by decide)) hRw.2) ?_)
          rintro _ rfl
          rw [decide_eq_true rfl]
          refine g_step_yes (j := 2) (t := 105) rfl rfl rfl rfl (s_val (v_not rfl) rfl rfl ?_)
          refine g_step rfl (s_val (v_pick_f rfl rfl) rfl rfl ?_)
          refine g_nil ?_
          refine g_next hK26 ?_
          refine g_cond rfl (fun hc115 => ?_) (fun hc115 => ?_)
          · exfalso; (try simp only [decide_eq_true_eq, decide_eq_false_iff_not, Bool.not_eq_true', Bool.not_eq_false', Bool.not_eq_eq_eq_not, Bool.not_true, Bool.not_false, Bool.and_eq_true, Bool.or_eq_true, Bool.or_eq_false_iff, beq_iff_eq, beq_eq_false_iff_ne, ne_eq, Int.not_lt, Int.not_le, Decidable.not_not] at hc115); simp at hc115
          ·
           try simp only [decide_eq_true_eq, decide_eq_false_iff_not, Bool.not_eq_true', Bool.not_eq_false', Bool.not_eq_eq_eq_not, Bool.not_true, Bool.not_false, Bool.and_eq_true, Bool.or_eq_true, Bool.or_eq_false_iff, beq_iff_eq, beq_eq_false_iff_ne, ne_eq, Int.not_lt, Int.not_le, Decidable.not_not] at hc115
           refine g_skip ?_
           refine g_block_normal ?_
           refine g_next hK24 ?_
           refine g_region ?_
           refine g_step rfl (s_val (v_move rfl) rfl rfl ?_)
           refine g_step rfl (s_val (v_add rfl rfl (by omega)) rfl rfl ?_)
           refine g_step rfl (s_val (v_assign rfl) rfl rfl ?_)
           refine g_nil ?_
           first | refine g_keep [0, 1, 2, 7, 8, 9, 13] [10, 11] [10, 11] (keep_cons rfl (keep_cons rfl (keep_cons rfl (keep_cons rfl (keep_cons rfl (keep_cons rfl (keep_cons rfl keep_nil))))))) (lkeep_cons rfl (lkeep_cons rfl lkeep_nil)) (keep_cons rfl (keep_cons rfl keep_nil)) rfl ?_ | refine g_keep [0, 1, 2, 7, 8, 9, 13] [10, 11] [10, 11] rfl rfl rfl rfl ?_
           exact g_round _ (by omega) ⟨i + 1, by omega, rfl, rfl, rfl, rfl, rfl⟩
        ·
         try simp only [decide_eq_true_eq, decide_eq_false_iff_not, Bool.not_eq_true', Bool.not_eq_false', Bool.not_eq_eq_eq_not, Bool.not_true, Bool.not_false, Bool.and_eq_true, Bool.or_eq_true, Bool.or_eq_false_iff, beq_iff_eq, beq_eq_false_iff_ne, ne_eq, Int.not_lt, Int.not_le, Decidable.not_not] at hc85
         obtain rfl : i = p'.rows.length := by omega
         refine g_exit ?_
         refine g_then_exit ?_
         refine g_then_exit ?_
         refine g_block_same ?_
         refine g_block_normal ?_
         refine g_next hK10 ?_
         refine g_region ?_
         refine g_step rfl (s_val (v_move rfl) rfl rfl ?_)
         refine g_step rfl (s_val (v_add rfl rfl (by omega)) rfl rfl ?_)
         refine g_step rfl (s_val (v_assign rfl) rfl rfl ?_)
         refine g_nil ?_
         first | refine g_keep [0, 1, 2, 7, 8, 9] [] [] (keep_cons rfl (keep_cons rfl (keep_cons rfl (keep_cons rfl (keep_cons rfl (keep_cons rfl keep_nil)))))) lkeep_nil keep_nil rfl ?_ | refine g_keep [0, 1, 2, 7, 8, 9] [] [] rfl rfl rfl rfl ?_
         exact g_round _ (by omega) ⟨k + 1, (upd o x.peer (keepF (o x.peer) x.life x.epoch x.base x.recs)), (upd mf x.peer p'), h1, by omega, rfl, rfl, rfl, rfl, ⟨hI1, hs2, hab1, hs_H2, hhr1, hrm2, upd_rel hR0 hrel, upd_rel hR1 hrel⟩⟩
      ·
       refine ⟨_, rfl, .inl ⟨rfl, ?_⟩⟩
       refine sm_alloc (av := (.agg [(.bool false), (.int .i64 0), .nil0])) ty85 rfl rfl rfl rfl ?_
       refine m_one 6 (by kernel_rfl) rfl rfl ?_
       refine sm_callp rfl rfl rfl (lkeep_ok (mf x.peer) x hSr.nodup (by omega) hns _) ?_
       rintro _ ⟨p', ok, rfl, hLK⟩
       obtain ⟨hkeq, hrel⟩ := rel_step hSr hLK (by omega) hns
       refine m_take 7 false rfl rfl (by kernel_rfl) (by kernel_rfl) (by kernel_rfl) (fun _ _ _ _ h => h) (v_move rfl) rfl rfl ?_
       refine m_take 8 false rfl rfl (by kernel_rfl) (by kernel_rfl) (by kernel_rfl) (fun _ _ _ _ h => h) (v_extract rfl rfl) rfl rfl ?_
       refine m_take 9 false rfl rfl (by kernel_rfl) (by kernel_rfl) (by kernel_rfl) (fun _ _ _ _ h => h) (v_extract rfl rfl) rfl rfl ?_
       refine m_one 11 (by kernel_rfl) rfl rfl ?_
       refine sm_any rfl (s_store_all ty85 rfl rfl rfl rfl rfl rfl ?_)
       refine m_take 12 false rfl rfl (by kernel_rfl) (by kernel_rfl) (by kernel_rfl) (fun _ _ _ _ h => h) (v_assign rfl) rfl rfl ?_
       refine m_done (by kernel_rfl) ?_
       refine g_next hK17 ?_
       refine g_seq (fun K27 hK27 => ?_)
       refine g_seq (fun K28 hK28 => ?_)
       refine g_region ?_
       refine g_step rfl (s_val (v_move rfl) rfl rfl ?_)
       refine g_step rfl (s_fieldAddr ty83 fo83_0 ty3 rfl rfl ?_)
       refine g_step rfl (s_val (v_loadl ty3 rfl rfl rfl rfl) rfl rfl ?_)
       refine g_step rfl (s_fieldAddr ty83 fo83_1 ty3 rfl rfl ?_)
       refine g_step rfl (s_val (v_loadl ty3 rfl rfl rfl rfl) rfl rfl ?_)
       refine g_step rfl (s_fieldAddr ty83 fo83_2 ty3 rfl rfl ?_)
       refine g_step rfl (s_val (v_loadl ty3 rfl rfl rfl rfl) rfl rfl ?_)
       refine g_step rfl (s_fieldAddr ty83 fo83_3 ty3 rfl rfl ?_)
       refine g_step rfl (s_val (v_loadl ty3 rfl rfl rfl rfl) rfl rfl ?_)
       refine g_step rfl (s_fieldAddr ty83 fo83_4 ty64 rfl rfl ?_)
       refine g_step rfl (s_val (v_loadl ty64 rfl rfl rfl rfl) rfl rfl ?_)
       refine g_step rfl (s_call rfl rfl rfl (iKeep_ok h p r o x.peer x.life x.epoch x.base x.recs (by omega) hns _ hI hs hSr.ok) (fun b hb => .inr (hab b hb)) ?_)
       rintro n3 v3 effs3 hn3 hdom3 ⟨rfl, h1, hE3, hI1⟩ hok3
       rw [hkeq]
       have hs1 := hE3.within hs
       have hab1 := hE3.above hn3 hab
       have hs_H1 := hE3.frame hdom3 hs_H (fun b hb => hw0 b (hab b hb))
       obtain ⟨hrm1, hhr1⟩ := hE3.keep_one hdom3 hrm hhr
       generalize hG1 : setAll G effs3 = G1
       rw [hG1] at hs1 hs_H1 hrm1
       refine g_step rfl (s_val (v_move rfl) rfl rfl ?_)
       refine g_step rfl (s_val (v_bool_neq ty4 rfl rfl) rfl rfl ?_)
       refine g_nil ?_
       refine g_next hK28 ?_
       first | refine g_keep [0, 1, 2, 7, 8, 9, 75] [10, 11] [10, 11] (keep_cons rfl (keep_cons rfl (keep_cons rfl (keep_cons rfl (keep_cons rfl (keep_cons rfl (keep_cons rfl keep_nil))))))) (lkeep_cons rfl (lkeep_cons rfl lkeep_nil)) (keep_cons rfl (keep_cons rfl keep_nil)) rfl ?_ | refine g_keep [0, 1, 2, 7, 8, 9, 75] [10, 11] [10, 11] rfl rfl rfl rfl ?_
       refine g_cond rfl (fun hc75 => ?_) (fun hc75 => ?_)
       · exfalso; (try simp only [decide_eq_true_eq, decide_eq_false_iff_not, Bool.not_eq_true', Bool.not_eq_false', Bool.not_eq_eq_eq_not, Bool.not_true, Bool.not_false, Bool.and_eq_true, Bool.or_eq_true, Bool.or_eq_false_iff, beq_iff_eq, beq_eq_false_iff_ne, ne_eq, Int.not_lt, Int.not_le, Decidable.not_not] at hc75); simp at hc75
       ·
        try simp only [decide_eq_true_eq, decide_eq_false_iff_not, Bool.not_eq_true', Bool.not_eq_false', Bool.not_eq_eq_eq_not, Bool.not_true, Bool.not_false, Bool.and_eq_true, Bool.or_eq_true, Bool.or_eq_false_iff, beq_iff_eq, beq_eq_false_iff_ne, ne_eq, Int.not_lt, Int.not_le, Decidable.not_not] at hc75
        refine g_skip ?_
        refine g_next hK27 ?_
        refine g_seq (fun K29 hK29 => ?_)
        refine g_region ?_
        refine g_step rfl (s_val (v_move rfl) rfl rfl ?_)
        refine g_step rfl (s_fieldAddr ty83 fo83_0 ty3 rfl rfl ?_)
        refine g_step rfl (s_val (v_loadl ty3 rfl rfl rfl rfl) rfl rfl ?_)
        refine g_step rfl (s_val (by first | exact v_loadl_all ty85 rfl rfl rfl rfl rfl | exact v_loadl_part (cs := [_, _, _]) ty85 rfl rfl rfl rfl rfl rfl) rfl rfl ?_)
        refine g_step rfl (s_val (v_indexAddr ty81 ty85 rfl rfl (AV.view_own_all hrm1 rfl) hj hpe rfl) rfl rfl ?_)
        refine g_step rfl (s_store_row (k := j) (off := 0) (old := encIP (mf x.peer)) (new := encIP p') ty85 rfl rfl hrm1 (by rw [Nat.zero_add]; exact hpe) rfl rfl rfl rfl (.inr hw26) ?_)
        rw [Nat.zero_add j, pairI_set mf p' hj hle]
        refine g_nil ?_
        refine g_next hK29 ?_
        refine g_seq (fun K30 hK30 => ?_)
        refine g_region ?_
        have hs2 := sub_set' (x := (.row 3 ([(upd mf x.peer p') 0, (upd mf x.peer p') 1].map encIP))) hs1 hhr1
        have hs_H2 := sub_set' (x := (.row 3 ([(upd mf x.peer p') 0, (upd mf x.peer p') 1].map encIP))) hs_H1 hHr26
        have hrm2 := AHeap.get_set G1 r26 (.row 3 ([(upd mf x.peer p') 0, (upd mf x.peer p') 1].map encIP))
        generalize hG2 : AHeap.set G1 r26 (.row 3 ([(upd mf x.peer p') 0, (upd mf x.peer p') 1].map encIP)) = G2
        rw [hG2] at hs2 hs_H2 hrm2
        refine g_step rfl (s_val (v_assign rfl) rfl rfl ?_)
        refine g_nil ?_
        refine g_next hK30 ?_
        refine g_block ?_
        first | refine g_keep [0, 1, 2, 7, 8, 9, 13] [10, 11] [10, 11] (keep_cons rfl (keep_cons rfl (keep_cons rfl (keep_cons rfl (keep_cons rfl (keep_cons rfl (keep_cons rfl keep_nil))))))) (lkeep_cons rfl (lkeep_cons rfl lkeep_nil)) (keep_cons rfl (keep_cons rfl keep_nil)) rfl ?_ | refine g_keep [0, 1, 2, 7, 8, 9, 13] [10, 11] [10, 11] rfl rfl rfl rfl ?_
        refine g_loop (fun n env L B G => ∃ (i : Nat) , i ≤ p'.rows.length ∧ n = p'.rows.length - i ∧ env = [(0, .imm (l.map encIA)), (1, .int .i64 life), (2, .int .i64 epoch), (7, .box p 0), (8, .own r26 3 0 2), (9, .int .i64 (k : Int)), (13, .int .i64 (i : Int))] ∧ L = [(10, 10, 0), (11, 11, 0)] ∧ B = [(10, (encIA x)), (11, (encIP p'))] ∧ G2 = G) (p'.rows.length) ⟨0, Nat.zero_le _, rfl, rfl, rfl, rfl, rfl⟩ (fun n env L B G hI => ?_)
        obtain ⟨i, hi, rfl, rfl, rfl, rfl, rfl⟩ := hI
        have hlp := hrel.nodup.2
        refine g_seq (fun K31 hK31 => ?_)
        refine g_seq (fun K32 hK32 => ?_)
        refine g_region ?_
        refine g_step rfl (s_val (v_move rfl) rfl rfl ?_)
        refine g_step rfl (s_fieldAddr ty85 fo85_2 ty70 rfl rfl ?_)
        refine g_step rfl (s_val (v_loadl ty70 rfl rfl rfl rfl) rfl rfl ?_)
        refine g_step rfl (s_val (v_len ty70 rfl (by first | rfl | assumption) (by first | exact List.length_map .. | rfl)) rfl rfl ?_)
        refine g_step rfl (s_val (v_lss rfl rfl) rfl rfl ?_)
        refine g_nil ?_
        refine g_next hK32 ?_
        refine g_cond rfl (fun hc85 => ?_) (fun hc85 => ?_)
        ·
         try simp only [decide_eq_true_eq, decide_eq_false_iff_not, Bool.not_eq_true', Bool.not_eq_false', Bool.not_eq_eq_eq_not, Bool.not_true, Bool.not_false, Bool.and_eq_true, Bool.or_eq_true, Bool.or_eq_false_iff, beq_iff_eq, beq_eq_false_iff_ne, ne_eq, Int.not_lt, Int.not_le, Decidable.not_not] at hc85
         obtain ⟨w, hw⟩ := get_some (l := p'.rows) (k := i) (by omega)
         have hwm := mem_get hw
         have hRw := rel_row hrel hwm
         have hlp := hrel.nodup.2
         refine g_skip ?_
         refine g_next hK31 ?_
         refine g_seq (fun K33 hK33 => ?_)
         refine g_block ?_
         refine g_seq (fun K34 hK34 => ?_)
         refine g_draw (n := 17) (fun j => !([] : List Nat).contains j) rfl rfl ?_
         refine m_take 0 false rfl rfl (by kernel_rfl) (by kernel_rfl) (by kernel_rfl) (fun _ _ _ _ h => h) (v_move rfl) rfl rfl ?_
         refine m_takel 1 rfl rfl (by kernel_rfl) (by kernel_rfl) (by kernel_rfl) (fun _ _ _ _ h => h) (vl_fieldAddr ty83 fo83_0 ty3 rfl) rfl rfl ?_
         refine m_take 2 true rfl rfl (by kernel_rfl) (by kernel_rfl) (by kernel_rfl) (fun _ _ _ _ h => h) (v_loadl ty3 rfl rfl rfl rfl) rfl rfl ?_
         refine m_takel 3 rfl rfl (by kernel_rfl) (by kernel_rfl) (by kernel_rfl) (fun _ _ _ _ h => h) (vl_fieldAddr ty85 fo85_1 ty3 rfl) rfl rfl ?_
         refine m_take 4 true rfl rfl (by kernel_rfl) (by kernel_rfl) (by kernel_rfl) (fun _ _ _ _ h => h) (v_loadl ty3 rfl rfl rfl rfl) rfl rfl ?_
         refine m_takel 5 rfl rfl (by kernel_rfl) (by kernel_rfl) (by kernel_rfl) (fun _ _ _ _ h => h) (vl_fieldAddr ty85 fo85_2 ty70 rfl) rfl rfl ?_
         refine m_take 6 true rfl rfl (by kernel_rfl) (by kernel_rfl) (by kernel_rfl) (fun _ _ _ _ h => h) (v_loadl ty70 rfl rfl rfl rfl) rfl rfl ?_
         refine m_take 7 false rfl rfl (by kernel_rfl) (by kernel_rfl) (by kernel_rfl) (fun _ _ _ _ h => h) (v_move rfl) rfl rfl ?_
         refine m_take 8 false rfl rfl (by kernel_rfl) (by kernel_rfl) (by kernel_rfl) (fun _ _ _ _ h => h) (v_indexAddr ty70 ty69 rfl rfl (by first | rfl | assumption) (by first | rfl | exact (rfl : (0 : Int) = ((0 : Nat) : Int)) | exact (Int.toNat_of_nonneg (by omega)).symm) (map_get hw) rfl) rfl rfl ?_
         refine m_take 9 false rfl rfl (by kernel_rfl) (by kernel_rfl) (by kernel_rfl) (fun _ _ _ _ h => h) (by first | exact v_fieldAddr ty69 fo69_0 ty3 rfl | exact v_fieldAddr_box ty69 fo69_0 ty3 rfl) rfl rfl ?_
         refine m_take 10 true rfl rfl (by kernel_rfl) (by kernel_rfl) (by kernel_rfl) (fun _ _ _ _ h => h) (by first | exact v_load ty3 rfl rfl (by first | rfl | assumption) (map_get hw) rfl | exact v_load_box ty3 rfl rfl (by assumption) rfl) rfl rfl ?_
         refine m_one 11 (by kernel_rfl) rfl rfl ?_
         refine sm_callp rfl rfl rfl (iFind_ok h1 p r (upd o x.peer (keepF (o x.peer) x.life x.epoch x.base x.recs)) x.peer p'.life w.epoch _ hI1 hs2 (by rw [upd_at]; exact hrel.ok)) ?_
         rintro _ rfl
         rw [upd_at, find_rel hrel hwm]
         refine m_take 12 false rfl rfl (by kernel_rfl) (by kernel_rfl) (by kernel_rfl) (fun _ _ _ _ h => h) (v_move rfl) rfl rfl ?_
         refine m_take 13 false rfl rfl (by kernel_rfl) (by kernel_rfl) (by kernel_rfl) (fun _ _ _ _ h => h) (v_extract rfl rfl) rfl rfl ?_
         refine m_take 14 false rfl rfl (by kernel_rfl) (by kernel_rfl) (by kernel_rfl) (fun _ _ _ _ h => h) (v_extract rfl rfl) rfl rfl ?_
         refine m_take 15 false rfl rfl (by kernel_rfl) (by kernel_rfl) (by kernel_rfl) (fun _ _ _ _ h => h) (v_assign rfl) rfl rfl ?_
         refine m_take 16 false rfl rfl (by kernel_rfl) (by kernel_rfl) (by kernel_rfl) (fun _ _ _ _ h => h) (v_assign rfl) rfl rfl ?_
         refine m_done (by kernel_rfl) ?_
         refine g_next hK34 ?_
         first | refine g_keep [0, 1, 2, 7, 8, 9, 13, 14, 15] [10, 11] [10, 11] (keep_cons rfl (keep_cons rfl (keep_cons rfl (keep_cons rfl (keep_cons rfl (keep_cons rfl (keep_cons rfl (keep_cons rfl (keep_cons rfl keep_nil))))))))) (lkeep_cons rfl (lkeep_cons rfl lkeep_nil)) (keep_cons rfl (keep_cons rfl keep_nil)) rfl ?_ | refine g_keep [0, 1, 2, 7, 8, 9, 13, 14, 15] [10, 11] [10, 11] rfl rfl rfl rfl ?_
         refine g_seq (fun K35 hK35 => ?_)
         refine g_region ?_
         refine g_step rfl (s_val (v_move rfl) rfl rfl ?_)
         refine g_step rfl (s_val (v_not rfl) rfl rfl ?_)
         refine g_step rfl (s_val (v_move rfl) rfl rfl ?_)
         refine g_split 105 rfl (fun hg105 => ?_) (fun hg105 => ?_)
         · exfalso; (try simp only [decide_eq_true_eq, decide_eq_false_iff_not, Bool.not_eq_true', Bool.not_eq_false', Bool.not_eq_eq_eq_not, Bool.not_true, Bool.not_false, Bool.and_eq_true, Bool.or_eq_true, Bool.or_eq_false_iff, beq_iff_eq, beq_eq_false_iff_ne, ne_eq, Int.not_lt, Int.not_le, Decidable.not_not] at hg105); simp at hg105
         ·
          try simp only [decide_eq_true_eq, decide_eq_false_iff_not, Bool.not_eq_true', Bool.not_eq_false', Bool.not_eq_eq_eq_not, Bool.not_true, Bool.not_false, Bool.and_eq_true, Bool.or_eq_true, Bool.or_eq_false_iff, beq_iff_eq, beq_eq_false_iff_ne, ne_eq, Int.not_lt, Int.not_le, Decidable.not_not] at hg105
          refine g_step_yes (j := 2) (t := 105) rfl rfl rfl rfl (s_val (v_move rfl) rfl rfl ?_)
          refine g_step_yes (j := 2) (t := 105) rfl rfl rfl rfl (s_fieldAddr ty85 fo85_2 ty70 rfl rfl ?_)
          refine g_step_yes (j := 2) (t := 105) rfl rfl rfl rfl (s_val (v_loadl ty70 rfl rfl rfl rfl) rfl rfl ?_)
          refine g_step_yes (j := 2) (t := 105) rfl rfl rfl rfl (s_val (v_move rfl) rfl rfl ?_)
          refine g_step_yes (j := 2) (t := 105) rfl rfl rfl rfl (s_val (v_indexAddr ty70 ty69 rfl rfl (by first | rfl | assumption) (by first | rfl | exact (rfl : (0 : Int) = ((0 : Nat) : Int)) | exact (Int.toNat_of_nonneg (by omega)).symm) (map_get hw) rfl) rfl rfl ?_)
          refine g_step_yes (j := 2) (t := 105) rfl rfl rfl rfl (s_val (by first | exact v_fieldAddr ty69 fo69_1 ty64 rfl | exact v_fieldAddr_box ty69 fo69_1 ty64 rfl) rfl rfl ?_)
          refine g_step_yes (j := 2) (t := 105) rfl rfl rfl rfl (s_val (by first | exact v_load ty64 rfl rfl (by first | rfl | assumption) (map_get hw) rfl | exact v_load_box ty64 rfl rfl (by assumption) rfl) rfl rfl ?_)
          refine g_step_yes (j := 2) (t := 105) rfl rfl rfl rfl (s_callp rfl rfl rfl (allAlike_ok w.recs w.recs _ _ _ rfl rfl (Nat.le_trans hRw.1 (by decide)) hRw.2) ?_)
          rintro _ rfl
          rw [decide_eq_true rfl]
          refine g_step_yes (j := 2) (t := 105) rfl rfl rfl rfl (s_val (v_not rfl) rfl rfl ?_)
          refine g_step rfl (s_val (v_pick_f rfl rfl) rfl rfl ?_)
          refine g_nil ?_
          refine g_next hK35 ?_
          refine g_cond rfl (fun hc115 => ?_) (fun hc115 => ?_)
          · exfalso; (try simp only [decide_eq_true_eq, decide_eq_false_iff_not, Bool.not_eq_true', Bool.not_eq_false', Bool.not_eq_eq_eq_not, Bool.not_true, Bool.not_false, Bool.and_eq_true, Bool.or_eq_true, Bool.or_eq_false_iff, beq_iff_eq, beq_eq_false_iff_ne, ne_eq, Int.not_lt, Int.not_le, Decidable.not_not] at hc115); simp at hc115
          ·
           try simp only [decide_eq_true_eq, decide_eq_false_iff_not, Bool.not_eq_true', Bool.not_eq_false', Bool.not_eq_eq_eq_not, Bool.not_true, Bool.not_false, Bool.and_eq_true, Bool.or_eq_true, Bool.or_eq_false_iff, beq_iff_eq, beq_eq_false_iff_ne, ne_eq, Int.not_lt, Int.not_le, Decidable.not_not] at hc115
           refine g_skip ?_
           refine g_block_normal ?_
           refine g_next hK33 ?_
           refine g_region ?_
           refine g_step rfl (s_val (v_move rfl) rfl rfl ?_)
           refine g_step rfl (s_val (v_add rfl rfl (by omega)) rfl rfl ?_)
           refine g_step rfl (s_val (v_assign rfl) rfl rfl ?_)
           refine g_nil ?_
           first | refine g_keep [0, 1, 2, 7, 8, 9, 13] [10, 11] [10, 11] (keep_cons rfl (keep_cons rfl (keep_cons rfl (keep_cons rfl (keep_cons rfl (keep_cons rfl (keep_cons rfl keep_nil))))))) (lkeep_cons rfl (lkeep_cons rfl lkeep_nil)) (keep_cons rfl (keep_cons rfl keep_nil)) rfl ?_ | refine g_keep [0, 1, 2, 7, 8, 9, 13] [10, 11] [10, 11] rfl rfl rfl rfl ?_
           exact g_round _ (by omega) ⟨i + 1, by omega, rfl, rfl, rfl, rfl, rfl⟩
        ·
         try simp only [decide_eq_true_eq, decide_eq_false_iff_not, Bool.not_eq_true', Bool.not_eq_false', Bool.not_eq_eq_eq_not, Bool.not_true, Bool.not_false, Bool.and_eq_true, Bool.or_eq_true, Bool.or_eq_false_iff, beq_iff_eq, beq_eq_false_iff_ne, ne_eq, Int.not_lt, Int.not_le, Decidable.not_not] at hc85
         obtain rfl : i = p'.rows.length := by omega
         refine g_exit ?_
         refine g_then_exit ?_
         refine g_then_exit ?_
         refine g_block_same ?_
         refine g_block_normal ?_
         refine g_next hK10 ?_
         refine g_region ?_
         refine g_step rfl (s_val (v_move rfl) rfl rfl ?_)
         refine g_step rfl (s_val (v_add rfl rfl (by omega)) rfl rfl ?_)
         refine g_step rfl (s_val (v_assign rfl) rfl rfl ?_)
         refine g_nil ?_
         first | refine g_keep [0, 1, 2, 7, 8, 9] [] [] (keep_cons rfl (keep_cons rfl (keep_cons rfl (keep_cons rfl (keep_cons rfl (keep_cons rfl keep_nil)))))) lkeep_nil keep_nil rfl ?_ | refine g_keep [0, 1, 2, 7, 8, 9] [] [] rfl rfl rfl rfl ?_
         exact g_round _ (by omega) ⟨k + 1, (upd o x.peer (keepF (o x.peer) x.life x.epoch x.base x.recs)), (upd mf x.peer p'), h1, by omega, rfl, rfl, rfl, rfl, ⟨hI1, hs2, hab1, hs_H2, hhr1, hrm2, upd_rel hR0 hrel, upd_rel hR1 hrel⟩⟩
  ·
   try simp only [decide_eq_true_eq, decide_eq_false_iff_not, Bool.not_eq_true', Bool.not_eq_false', Bool.not_eq_eq_eq_not, Bool.not_true, Bool.not_false, Bool.and_eq_true, Bool.or_eq_true, Bool.or_eq_false_iff, beq_iff_eq, beq_eq_false_iff_ne, ne_eq, Int.not_lt, Int.not_le, Decidable.not_not] at hc30
   obtain rfl : k = l.length := by omega
   refine g_exit ?_
   refine g_then_exit ?_
   refine g_then_exit ?_
   refine g_block_same ?_
   refine g_next hK6 ?_
   refine g_seq (fun K36 hK36 => ?_)
   refine g_seq (fun K37 hK37 => ?_)
   refine g_region ?_
   obtain ⟨G0, hG0⟩ : ∃ G0, G0 = G := ⟨_, rfl⟩
   have hs0 := hs
   have hs_H0 := hs_H
   have hrm0 := hrm
   rw [← hG0] at hs0 hs_H0 hrm0
   refine g_step rfl (s_val (v_assign rfl) rfl rfl ?_)
   refine g_nil ?_
   refine g_next hK37 ?_
   refine g_block ?_
   first | refine g_keep [1, 2, 7, 8, 16] [] [] (keep_cons rfl (keep_cons rfl (keep_cons rfl (keep_cons rfl (keep_cons rfl keep_nil))))) lkeep_nil keep_nil rfl ?_ | refine g_keep [1, 2, 7, 8, 16] [] [] rfl rfl rfl rfl ?_
   refine g_loop (fun n env L B G => ∃ (j : Nat) , j ≤ 2 ∧ n = 2 - j ∧ env = [(1, .int .i64 life), (2, .int .i64 epoch), (7, .box p 0), (8, .own r26 3 0 2), (16, .int .i64 (j : Int))] ∧ L = [] ∧ B = [] ∧ G0 = G) (2) ⟨0, Nat.zero_le _, rfl, rfl, rfl, rfl, hG0⟩ (fun n env L B G hI => ?_)
   obtain ⟨j, hj, rfl, rfl, rfl, rfl, rfl⟩ := hI
   refine g_seq (fun K38 hK38 => ?_)
   refine g_seq (fun K39 hK39 => ?_)
   refine g_region ?_
   refine g_step rfl (s_val (v_move rfl) rfl rfl ?_)
   refine g_step rfl (s_val (v_lss rfl rfl) rfl rfl ?_)
   refine g_nil ?_
   refine g_next hK39 ?_
   refine g_cond rfl (fun hc117 => ?_) (fun hc117 => ?_)
   ·
    try simp only [decide_eq_true_eq, decide_eq_false_iff_not, Bool.not_eq_true', Bool.not_eq_false', Bool.not_eq_eq_eq_not, Bool.not_true, Bool.not_false, Bool.and_eq_true, Bool.or_eq_true, Bool.or_eq_false_iff, beq_iff_eq, beq_eq_false_iff_ne, ne_eq, Int.not_lt, Int.not_le, Decidable.not_not] at hc117
    have hRj := pair_rel (x := (j : Int)) hR0 hR1 (by omega) (by omega)
    have hlj := hRj.nodup.2
    refine g_skip ?_
    refine g_next hK38 ?_
    refine g_seq (fun K40 hK40 => ?_)
    refine g_block ?_
    refine g_seq (fun K41 hK41 => ?_)
    refine g_region ?_
    refine g_step rfl (s_val (v_move rfl) rfl rfl ?_)
    refine g_step rfl (s_val (v_move rfl) rfl rfl ?_)
    refine g_step rfl (s_val (v_move rfl) rfl rfl ?_)
    refine g_step rfl (s_val (v_move rfl) rfl rfl ?_)
    refine g_step rfl (s_callp rfl rfl rfl (iFind_ok h p r o (j : Int) life epoch _ hI hs0 hRj.ok) ?_)
    rintro _ rfl
    refine g_step rfl (s_val (v_move rfl) rfl rfl ?_)
    refine g_step rfl (s_val (v_extract rfl rfl) rfl rfl ?_)
    refine g_step rfl (s_val (v_extract rfl rfl) rfl rfl ?_)
    refine g_step rfl (s_val (v_assign rfl) rfl rfl ?_)
    refine g_step rfl (s_val (v_assign rfl) rfl rfl ?_)
    refine g_nil ?_
    refine g_next hK41 ?_
    refine g_seq (fun K42 hK42 => ?_)
    refine g_region ?_
    refine g_step rfl (s_val (v_assign rfl) rfl rfl ?_)
    refine g_nil ?_
    refine g_next hK42 ?_
    refine g_seq (fun K43 hK43 => ?_)
    refine g_seq (fun K44 hK44 => ?_)
    refine g_region ?_
    refine g_step rfl (s_val (v_assign rfl) rfl rfl ?_)
    refine g_nil ?_
    refine g_next hK44 ?_
    refine g_block ?_
    first | refine g_keep [1, 2, 7, 8, 16, 17, 18, 19, 20] [] [] (keep_cons rfl (keep_cons rfl (keep_cons rfl (keep_cons rfl (keep_cons rfl (keep_cons rfl (keep_cons rfl (keep_cons rfl (keep_cons rfl keep_nil))))))))) lkeep_nil keep_nil rfl ?_ | refine g_keep [1, 2, 7, 8, 16, 17, 18, 19, 20] [] [] rfl rfl rfl rfl ?_
    refine g_loop (fun n env L B G => ∃ (i : Nat) (u : Int), i ≤ (mf (j : Int)).rows.length ∧ n = (mf (j : Int)).rows.length - i ∧ env = [(1, .int .i64 life), (2, .int .i64 epoch), (7, .box p 0), (8, .own r26 3 0 2), (16, .int .i64 (j : Int)), (17, (encRs ((gFind (o (j : Int)) life epoch).getD []))), (18, .bool (gFind (o (j : Int)) life epoch).isSome), (19, .int .i64 u), (20, .int .i64 (i : Int))] ∧ L = [] ∧ B = [] ∧ G0 = G ∧ FindU (mf (j : Int)) life epoch i u) ((mf (j : Int)).rows.length) ⟨0, -1, Nat.zero_le _, rfl, rfl, rfl, rfl, rfl, FindU.zero _ _ _⟩ (fun n env L B G hI => ?_)
    obtain ⟨i, u, hi, rfl, rfl, rfl, rfl, rfl, hu⟩ := hI
    refine g_seq (fun K45 hK45 => ?_)
    refine g_seq (fun K46 hK46 => ?_)
    refine g_region ?_
    refine g_step rfl (s_val (v_move rfl) rfl rfl ?_)
    refine g_step rfl (s_val (v_move rfl) rfl rfl ?_)
    refine g_step rfl (s_val (v_move rfl) rfl rfl ?_)
    refine g_step rfl (s_val (v_indexAddr ty81 ty85 rfl rfl (AV.view_own_all hrm0 rfl) rfl (pairI_at mf rfl (by omega)) rfl) rfl rfl ?_)
    refine g_step rfl (s_val (by first | exact v_fieldAddr ty85 fo85_2 ty70 rfl | exact v_fieldAddr_box ty85 fo85_2 ty70 rfl) rfl rfl ?_)
    refine g_step rfl (s_val (by first | exact v_load ty70 rfl rfl (AV.view_own_all hrm0 rfl) (pairI_at mf rfl (by omega)) rfl | exact v_load_box ty70 rfl rfl (by assumption) rfl) rfl rfl ?_)
    refine g_step rfl (s_val (v_len ty70 rfl (by first | rfl | assumption) (by first | exact List.length_map .. | rfl)) rfl rfl ?_)
    refine g_step rfl (s_val (v_lss rfl rfl) rfl rfl ?_)
    refine g_nil ?_
    refine g_next hK46 ?_
    refine g_cond rfl (fun hc135 => ?_) (fun hc135 => ?_)
    ·
     try simp only [decide_eq_true_eq, decide_eq_false_iff_not, Bool.not_eq_true', Bool.not_eq_false', Bool.not_eq_eq_eq_not, Bool.not_true, Bool.not_false, Bool.and_eq_true, Bool.or_eq_true, Bool.or_eq_false_iff, beq_iff_eq, beq_eq_false_iff_ne, ne_eq, Int.not_lt, Int.not_le, Decidable.not_not] at hc135
     obtain ⟨w, hw⟩ := get_some (l := (mf (j : Int)).rows) (k := i) (by omega)
     refine g_skip ?_
     refine g_next hK45 ?_
     refine g_seq (fun K47 hK47 => ?_)
     refine g_block ?_
     refine g_seq (fun K48 hK48 => ?_)
     refine g_region ?_
     refine g_step rfl (s_val (v_move rfl) rfl rfl ?_)
     refine g_step rfl (s_val (v_move rfl) rfl rfl ?_)
     refine g_step rfl (s_val (v_indexAddr ty81 ty85 rfl rfl (AV.view_own_all hrm0 rfl) rfl (pairI_at mf rfl (by omega)) rfl) rfl rfl ?_)
     refine g_step rfl (s_val (by first | exact v_fieldAddr ty85 fo85_0 ty4 rfl | exact v_fieldAddr_box ty85 fo85_0 ty4 rfl) rfl rfl ?_)
     refine g_step rfl (s_val (by first | exact v_load ty4 rfl rfl (AV.view_own_all hrm0 rfl) (pairI_at mf rfl (by omega)) rfl | exact v_load_box ty4 rfl rfl (by assumption) rfl) rfl rfl ?_)
     refine g_step rfl (s_val (v_move rfl) rfl rfl ?_)
     refine g_split 143 rfl (fun hg143 => ?_) (fun hg143 => ?_)
     ·
      try simp only [decide_eq_true_eq, decide_eq_false_iff_not, Bool.not_eq_true', Bool.not_eq_false', Bool.not_eq_eq_eq_not, Bool.not_true, Bool.not_false, Bool.and_eq_true, Bool.or_eq_true, Bool.or_eq_false_iff, beq_iff_eq, beq_eq_false_iff_ne, ne_eq, Int.not_lt, Int.not_le, Decidable.not_not] at hg143
      refine g_step_yes (j := 5) (t := 143) rfl rfl rfl rfl (s_val (v_move rfl) rfl rfl ?_)
      refine g_step_yes (j := 5) (t := 143) rfl rfl rfl rfl (s_val (v_move rfl) rfl rfl ?_)
      refine g_step_yes (j := 5) (t := 143) rfl rfl rfl rfl (s_val (v_indexAddr ty81 ty85 rfl rfl (AV.view_own_all hrm0 rfl) rfl (pairI_at mf rfl (by omega)) rfl) rfl rfl ?_)
      refine g_step_yes (j := 5) (t := 143) rfl rfl rfl rfl (s_val (by first | exact v_fieldAddr ty85 fo85_1 ty3 rfl | exact v_fieldAddr_box ty85 fo85_1 ty3 rfl) rfl rfl ?_)
      refine g_step_yes (j := 5) (t := 143) rfl rfl rfl rfl (s_val (by first | exact v_load ty3 rfl rfl (AV.view_own_all hrm0 rfl) (pairI_at mf rfl (by omega)) rfl | exact v_load_box ty3 rfl rfl (by assumption) rfl) rfl rfl ?_)
      refine g_step_yes (j := 5) (t := 143) rfl rfl rfl rfl (s_val (v_move rfl) rfl rfl ?_)
      refine g_step_yes (j := 5) (t := 143) rfl rfl rfl rfl (s_val (v_eql rfl rfl) rfl rfl ?_)
      refine g_step rfl (s_val (v_pick_t rfl rfl) rfl rfl ?_)
      refine g_step rfl (s_val (v_move rfl) rfl rfl ?_)
      refine g_split 152 rfl (fun hg152 => ?_) (fun hg152 => ?_)
      ·
       try simp only [decide_eq_true_eq, decide_eq_false_iff_not, Bool.not_eq_true', Bool.not_eq_false', Bool.not_eq_eq_eq_not, Bool.not_true, Bool.not_false, Bool.and_eq_true, Bool.or_eq_true, Bool.or_eq_false_iff, beq_iff_eq, beq_eq_false_iff_ne, ne_eq, Int.not_lt, Int.not_le, Decidable.not_not] at hg152
       refine g_step_yes (j := 14) (t := 152) rfl rfl rfl rfl (s_val (v_move rfl) rfl rfl ?_)
       refine g_step_yes (j := 14) (t := 152) rfl rfl rfl rfl (s_val (v_move rfl) rfl rfl ?_)
       refine g_step_yes (j := 14) (t := 152) rfl rfl rfl rfl (s_val (v_indexAddr ty81 ty85 rfl rfl (AV.view_own_all hrm0 rfl) rfl (pairI_at mf rfl (by omega)) rfl) rfl rfl ?_)
       refine g_step_yes (j := 14) (t := 152) rfl rfl rfl rfl (s_val (by first | exact v_fieldAddr ty85 fo85_2 ty70 rfl | exact v_fieldAddr_box ty85 fo85_2 ty70 rfl) rfl rfl ?_)
       refine g_step_yes (j := 14) (t := 152) rfl rfl rfl rfl (s_val (by first | exact v_load ty70 rfl rfl (AV.view_own_all hrm0 rfl) (pairI_at mf rfl (by omega)) rfl | exact v_load_box ty70 rfl rfl (by assumption) rfl) rfl rfl ?_)
       refine g_step_yes (j := 14) (t := 152) rfl rfl rfl rfl (s_val (v_move rfl) rfl rfl ?_)
       refine g_step_yes (j := 14) (t := 152) rfl rfl rfl rfl (s_val (v_indexAddr ty70 ty69 rfl rfl (by first | rfl | assumption) (by first | rfl | exact (rfl : (0 : Int) = ((0 : Nat) : Int)) | exact (Int.toNat_of_nonneg (by omega)).symm) (map_get hw) rfl) rfl rfl ?_)
       refine g_step_yes (j := 14) (t := 152) rfl rfl rfl rfl (s_val (by first | exact v_fieldAddr ty69 fo69_0 ty3 rfl | exact v_fieldAddr_box ty69 fo69_0 ty3 rfl) rfl rfl ?_)
       refine g_step_yes (j := 14) (t := 152) rfl rfl rfl rfl (s_val (by first | exact v_load ty3 rfl rfl (by first | rfl | assumption) (map_get hw) rfl | exact v_load_box ty3 rfl rfl (by assumption) rfl) rfl rfl ?_)
       refine g_step_yes (j := 14) (t := 152) rfl rfl rfl rfl (s_val (v_move rfl) rfl rfl ?_)
       refine g_step_yes (j := 14) (t := 152) rfl rfl rfl rfl (s_val (v_eql rfl rfl) rfl rfl ?_)
       refine g_step rfl (s_val (v_pick_t rfl rfl) rfl rfl ?_)
       refine g_nil ?_
       refine g_next hK48 ?_
       first | refine g_keep [1, 2, 7, 8, 16, 17, 18, 19, 20, 164] [] [] (keep_cons rfl (keep_cons rfl (keep_cons rfl (keep_cons rfl (keep_cons rfl (keep_cons rfl (keep_cons rfl (keep_cons rfl (keep_cons rfl (keep_cons rfl keep_nil)))))))))) lkeep_nil keep_nil rfl ?_ | refine g_keep [1, 2, 7, 8, 16, 17, 18, 19, 20, 164] [] [] rfl rfl rfl rfl ?_
       refine g_cond rfl (fun hc164 => ?_) (fun hc164 => ?_)
       ·
        try simp only [decide_eq_true_eq, decide_eq_false_iff_not, Bool.not_eq_true', Bool.not_eq_false', Bool.not_eq_eq_eq_not, Bool.not_true, Bool.not_false, Bool.and_eq_true, Bool.or_eq_true, Bool.or_eq_false_iff, beq_iff_eq, beq_eq_false_iff_ne, ne_eq, Int.not_lt, Int.not_le, Decidable.not_not] at hc164
        refine g_region ?_
        refine g_step rfl (s_val (v_move rfl) rfl rfl ?_)
        refine g_step rfl (s_val (v_assign rfl) rfl rfl ?_)
        refine g_nil ?_
        refine g_block_normal ?_
        refine g_next hK47 ?_
        refine g_region ?_
        refine g_step rfl (s_val (v_move rfl) rfl rfl ?_)
        refine g_step rfl (s_val (v_add rfl rfl (by omega)) rfl rfl ?_)
        refine g_step rfl (s_val (v_assign rfl) rfl rfl ?_)
        refine g_nil ?_
        first | refine g_keep [1, 2, 7, 8, 16, 17, 18, 19, 20] [] [] (keep_cons rfl (keep_cons rfl (keep_cons rfl (keep_cons rfl (keep_cons rfl (keep_cons rfl (keep_cons rfl (keep_cons rfl (keep_cons rfl keep_nil))))))))) lkeep_nil keep_nil rfl ?_ | refine g_keep [1, 2, 7, 8, 16, 17, 18, 19, 20] [] [] rfl rfl rfl rfl ?_
        first | exact g_round _ (by omega) ⟨i + 1, (i : Int), by omega, rfl, rfl, rfl, rfl, rfl, FindU.hit hw hg143 hg152 hc164⟩ | exact g_round _ (by omega) ⟨i + 1, u, by omega, rfl, rfl, rfl, rfl, rfl, FindU.miss hu hw (by rintro ⟨h1, h2, h3⟩; first | exact hc164 h3 | exact hg152 h2 | (rw [h1] at hg143; cases hg143))⟩
       ·
        try simp only [decide_eq_true_eq, decide_eq_false_iff_not, Bool.not_eq_true', Bool.not_eq_false', Bool.not_eq_eq_eq_not, Bool.not_true, Bool.not_false, Bool.and_eq_true, Bool.or_eq_true, Bool.or_eq_false_iff, beq_iff_eq, beq_eq_false_iff_ne, ne_eq, Int.not_lt, Int.not_le, Decidable.not_not] at hc164
        refine g_skip ?_
        refine g_block_normal ?_
        refine g_next hK47 ?_
        refine g_region ?_
        refine g_step rfl (s_val (v_move rfl) rfl rfl ?_)
        refine g_step rfl (s_val (v_add rfl rfl (by omega)) rfl rfl ?_)
        refine g_step rfl (s_val (v_assign rfl) rfl rfl ?_)
        refine g_nil ?_
        first | refine g_keep [1, 2, 7, 8, 16, 17, 18, 19, 20] [] [] (keep_cons rfl (keep_cons rfl (keep_cons rfl (keep_cons rfl (keep_cons rfl (keep_cons rfl (keep_cons rfl (keep_cons rfl (keep_cons rfl keep_nil))))))))) lkeep_nil keep_nil rfl ?_ | refine g_keep [1, 2, 7, 8, 16, 17, 18, 19, 20] [] [] rfl rfl rfl rfl ?_
        first | exact g_round _ (by omega) ⟨i + 1, (i : Int), by omega, rfl, rfl, rfl, rfl, rfl, FindU.hit hw hg143 hg152 hc164⟩ | exact g_round _ (by omega) ⟨i + 1, u, by omega, rfl, rfl, rfl, rfl, rfl, FindU.miss hu hw (by rintro ⟨h1, h2, h3⟩; first | exact hc164 h3 | exact hg152 h2 | (rw [h1] at hg143; cases hg143))⟩
      ·
       try simp only [decide_eq_true_eq, decide_eq_false_iff_not, Bool.not_eq_true', Bool.not_eq_false', Bool.not_eq_eq_eq_not, Bool.not_true, Bool.not_false, Bool.and_eq_true, Bool.or_eq_true, Bool.or_eq_false_iff, beq_iff_eq, beq_eq_false_iff_ne, ne_eq, Int.not_lt, Int.not_le, Decidable.not_not] at hg152
       refine g_step_no (j := 14) (t := 152) rfl rfl rfl rfl rfl rfl rfl ?_
       refine g_step_no (j := 14) (t := 152) rfl rfl rfl rfl rfl rfl rfl ?_
       refine g_step_no (j := 14) (t := 152) rfl rfl rfl rfl rfl rfl rfl ?_
       refine g_step_no (j := 14) (t := 152) rfl rfl rfl rfl rfl rfl rfl ?_
       refine g_step_no (j := 14) (t := 152) rfl rfl rfl rfl rfl rfl rfl ?_
       refine g_step_no (j := 14) (t := 152) rfl rfl rfl rfl rfl rfl rfl ?_
       refine g_step_no (j := 14) (t := 152) rfl rfl rfl rfl rfl rfl rfl ?_
       refine g_step_no (j := 14) (t := 152) rfl rfl rfl rfl rfl rfl rfl ?_
       refine g_step_no (j := 14) (t := 152) rfl rfl rfl rfl rfl rfl rfl ?_
       refine g_step_no (j := 14) (t := 152) rfl rfl rfl rfl rfl rfl rfl ?_
       refine g_step_no (j := 14) (t := 152) rfl rfl rfl rfl rfl rfl rfl ?_
       refine g_step rfl (s_val (v_pick_f rfl rfl) rfl rfl ?_)
       refine g_nil ?_
       refine g_next hK48 ?_
       first | refine g_keep [1, 2, 7, 8, 16, 17, 18, 19, 20, 164] [] [] (keep_cons rfl (keep_cons rfl (keep_cons rfl (keep_cons rfl (keep_cons rfl (keep_cons rfl (keep_cons rfl (keep_cons rfl (keep_cons rfl (keep_cons rfl keep_nil)))))))))) lkeep_nil keep_nil rfl ?_ | refine g_keep [1, 2, 7, 8, 16, 17, 18, 19, 20, 164] [] [] rfl rfl rfl rfl ?_
       refine g_cond rfl (fun h => by cases h) (fun _ => ?_)
       refine g_skip ?_
       refine g_block_normal ?_
       refine g_next hK47 ?_
       refine g_region ?_
       refine g_step rfl (s_val (v_move rfl) rfl rfl ?_)
       refine g_step rfl (s_val (v_add rfl rfl (by omega)) rfl rfl ?_)
       refine g_step rfl (s_val (v_assign rfl) rfl rfl ?_)
       refine g_nil ?_
       first | refine g_keep [1, 2, 7, 8, 16, 17, 18, 19, 20] [] [] (keep_cons rfl (keep_cons rfl (keep_cons rfl (keep_cons rfl (keep_cons rfl (keep_cons rfl (keep_cons rfl (keep_cons rfl (keep_cons rfl keep_nil))))))))) lkeep_nil keep_nil rfl ?_ | refine g_keep [1, 2, 7, 8, 16, 17, 18, 19, 20] [] [] rfl rfl rfl rfl ?_
       first | exact g_round _ (by omega) ⟨i + 1, (i : Int), by omega, rfl, rfl, rfl, rfl, rfl, FindU.hit hw hg143 hg152 hc164⟩ | exact g_round _ (by omega) ⟨i + 1, u, by omega, rfl, rfl, rfl, rfl, rfl, FindU.miss hu hw (by rintro ⟨h1, h2, h3⟩; first | exact hc164 h3 | exact hg152 h2 | (rw [h1] at hg143; cases hg143))⟩
     ·
      try simp only [decide_eq_true_eq, decide_eq_false_iff_not, Bool.not_eq_true', Bool.not_eq_false', Bool.not_eq_eq_eq_not, Bool.not_true, Bool.not_false, Bool.and_eq_true, Bool.or_eq_true, Bool.or_eq_false_iff, beq_iff_eq, beq_eq_false_iff_ne, ne_eq, Int.not_lt, Int.not_le, Decidable.not_not] at hg143
      refine g_step_no (j := 5) (t := 143) rfl rfl rfl rfl rfl rfl rfl ?_
      refine g_step_no (j := 5) (t := 143) rfl rfl rfl rfl rfl rfl rfl ?_
      refine g_step_no (j := 5) (t := 143) rfl rfl rfl rfl rfl rfl rfl ?_
      refine g_step_no (j := 5) (t := 143) rfl rfl rfl rfl rfl rfl rfl ?_
      refine g_step_no (j := 5) (t := 143) rfl rfl rfl rfl rfl rfl rfl ?_
      refine g_step_no (j := 5) (t := 143) rfl rfl rfl rfl rfl rfl rfl ?_
      refine g_step_no (j := 5) (t := 143) rfl rfl rfl rfl rfl rfl rfl ?_
      refine g_step rfl (s_val (v_pick_f rfl rfl) rfl rfl ?_)
      refine g_step rfl (s_val (v_move rfl) rfl rfl ?_)
      refine g_step_no (j := 14) (t := 152) rfl rfl rfl rfl rfl rfl rfl ?_
      refine g_step_no (j := 14) (t := 152) rfl rfl rfl rfl rfl rfl rfl ?_
      refine g_step_no (j := 14) (t := 152) rfl rfl rfl rfl rfl rfl rfl ?_
      refine g_step_no (j := 14) (t := 152) rfl rfl rfl rfl rfl rfl rfl ?_
      refine g_step_no (j := 14) (t := 152) rfl rfl rfl rfl rfl rfl rfl ?_
      refine g_step_no (j := 14) (t := 152) rfl rfl rfl rfl rfl rfl rfl ?_
      refine g_step_no (j := 14) (t := 152) rfl rfl rfl rfl rfl rfl rfl ?_
      refine g_step_no (j := 14) (t := 152) rfl rfl rfl rfl rfl rfl rfl ?_
      refine g_step_no (j := 14) (t := 152) rfl rfl rfl rfl rfl rfl rfl ?_
      refine g_step_no (j := 14) (t := 152) rfl rfl rfl rfl rfl rfl rfl ?_
      refine g_step_no (j := 14) (t := 152) rfl rfl rfl rfl rfl rfl rfl ?_
      refine g_step rfl (s_val (v_pick_f rfl rfl) rfl rfl ?_)
      refine g_nil ?_
      refine g_next hK48 ?_
      first | refine g_keep [1, 2, 7, 8, 16, 17, 18, 19, 20, 164] [] [] (keep_cons rfl (keep_cons rfl (keep_cons rfl (keep_cons rfl (keep_cons rfl (keep_cons rfl (keep_cons rfl (keep_cons rfl (keep_cons rfl (keep_cons rfl keep_nil)))))))))) lkeep_nil keep_nil rfl ?_ | refine g_keep [1, 2, 7, 8, 16, 17, 18, 19, 20, 164] [] [] rfl rfl rfl rfl ?_
      refine g_cond rfl (fun h => by cases h) (fun _ => ?_)
      refine g_skip ?_
      refine g_block_normal ?_
      refine g_next hK47 ?_
      refine g_region ?_
      refine g_step rfl (s_val (v_move rfl) rfl rfl ?_)
      refine g_step rfl (s_val (v_add rfl rfl (by omega)) rfl rfl ?_)
      refine g_step rfl (s_val (v_assign rfl) rfl rfl ?_)
      refine g_nil ?_
      first | refine g_keep [1, 2, 7, 8, 16, 17, 18, 19, 20] [] [] (keep_cons rfl (keep_cons rfl (keep_cons rfl (keep_cons rfl (keep_cons rfl (keep_cons rfl (keep_cons rfl (keep_cons rfl (keep_cons rfl keep_nil))))))))) lkeep_nil keep_nil rfl ?_ | refine g_keep [1, 2, 7, 8, 16, 17, 18, 19, 20] [] [] rfl rfl rfl rfl ?_
      first | exact g_round _ (by omega) ⟨i + 1, (i : Int), by omega, rfl, rfl, rfl, rfl, rfl, FindU.hit hw hg143 hg152 hc164⟩ | exact g_round _ (by omega) ⟨i + 1, u, by omega, rfl, rfl, rfl, rfl, rfl, FindU.miss hu hw (by rintro ⟨h1, h2, h3⟩; first | exact hc164 h3 | exact hg152 h2 | (rw [h1] at hg143; cases hg143))⟩
    ·
     try simp only [decide_eq_true_eq, decide_eq_false_iff_not, Bool.not_eq_true', Bool.not_eq_false', Bool.not_eq_eq_eq_not, Bool.not_true, Bool.not_false, Bool.and_eq_true, Bool.or_eq_true, Bool.or_eq_false_iff, beq_iff_eq, beq_eq_false_iff_ne, ne_eq, Int.not_lt, Int.not_le, Decidable.not_not] at hc135
     obtain rfl : i = (mf (j : Int)).rows.length := by omega
     refine g_exit ?_
     refine g_then_exit ?_
     refine g_then_exit ?_
     refine g_block_same ?_
     refine g_next hK43 ?_
     refine g_seq (fun K49 hK49 => ?_)
     refine g_region ?_
     rcases FindU.done hRj hu with ⟨rfl, hgn⟩ | ⟨i, w, rfl, hw, hgw⟩
     ·
      rw [hgn]
      refine g_step rfl (s_val (v_move rfl) rfl rfl ?_)
      refine g_step rfl (s_val (v_move rfl) rfl rfl ?_)
      refine g_step rfl (s_val (v_geq rfl rfl) rfl rfl ?_)
      refine g_step rfl (s_val (v_bool_neq ty4 rfl rfl) rfl rfl ?_)
      refine g_step rfl (s_val (v_move rfl) rfl rfl ?_)
      refine g_split 170 rfl (fun hg170 => ?_) (fun hg170 => ?_)
      · exfalso; (try simp only [decide_eq_true_eq, decide_eq_false_iff_not, Bool.not_eq_true', Bool.not_eq_false', Bool.not_eq_eq_eq_not, Bool.not_true, Bool.not_false, Bool.and_eq_true, Bool.or_eq_true, Bool.or_eq_false_iff, beq_iff_eq, beq_eq_false_iff_ne, ne_eq, Int.not_lt, Int.not_le, Decidable.not_not] at hg170); revert hg170; decide
      ·
       try simp only [decide_eq_true_eq, decide_eq_false_iff_not, Bool.not_eq_true', Bool.not_eq_false', Bool.not_eq_eq_eq_not, Bool.not_true, Bool.not_false, Bool.and_eq_true, Bool.or_eq_true, Bool.or_eq_false_iff, beq_iff_eq, beq_eq_false_iff_ne, ne_eq, Int.not_lt, Int.not_le, Decidable.not_not] at hg170
       refine g_step_yes (j := 4) (t := 170) rfl rfl rfl rfl (s_val (v_move rfl) rfl rfl ?_)
       refine g_step_yes (j := 4) (t := 170) rfl rfl rfl rfl (s_val (v_move rfl) rfl rfl ?_)
       refine g_split 172 rfl (fun hg172 => ?_) (fun hg172 => ?_)
       · exfalso; (try simp only [decide_eq_true_eq, decide_eq_false_iff_not, Bool.not_eq_true', Bool.not_eq_false', Bool.not_eq_eq_eq_not, Bool.not_true, Bool.not_false, Bool.and_eq_true, Bool.or_eq_true, Bool.or_eq_false_iff, beq_iff_eq, beq_eq_false_iff_ne, ne_eq, Int.not_lt, Int.not_le, Decidable.not_not] at hg172); simp at hg172
       ·
        try simp only [decide_eq_true_eq, decide_eq_false_iff_not, Bool.not_eq_true', Bool.not_eq_false', Bool.not_eq_eq_eq_not, Bool.not_true, Bool.not_false, Bool.and_eq_true, Bool.or_eq_true, Bool.or_eq_false_iff, beq_iff_eq, beq_eq_false_iff_ne, ne_eq, Int.not_lt, Int.not_le, Decidable.not_not] at hg172
        refine g_step_no (j := 6) (t := 172) rfl rfl rfl rfl rfl rfl rfl ?_
        refine g_step_no (j := 6) (t := 172) rfl rfl rfl rfl rfl rfl rfl ?_
        refine g_step_no (j := 6) (t := 172) rfl rfl rfl rfl rfl rfl rfl ?_
        refine g_step_no (j := 6) (t := 172) rfl rfl rfl rfl rfl rfl rfl ?_
        refine g_step_no (j := 6) (t := 172) rfl rfl rfl rfl rfl rfl rfl ?_
        refine g_step_no (j := 6) (t := 172) rfl rfl rfl rfl rfl rfl rfl ?_
        refine g_step_no (j := 6) (t := 172) rfl rfl rfl rfl rfl rfl rfl ?_
        refine g_step_no (j := 6) (t := 172) rfl rfl rfl rfl rfl rfl rfl ?_
        refine g_step_no (j := 6) (t := 172) rfl rfl rfl rfl rfl rfl rfl ?_
        refine g_step_no (j := 6) (t := 172) rfl rfl rfl rfl rfl rfl rfl ?_
        refine g_step_no (j := 6) (t := 172) rfl rfl rfl rfl rfl rfl rfl ?_
        refine g_step_no (j := 6) (t := 172) rfl rfl rfl rfl rfl rfl rfl ?_
        refine g_step_yes (j := 4) (t := 170) rfl rfl rfl rfl (s_val (v_pick_f rfl rfl) rfl rfl ?_)
        refine g_step rfl (s_val (v_pick_f rfl rfl) rfl rfl ?_)
        refine g_step rfl (s_val (v_move rfl) rfl rfl ?_)
        refine g_step_yes (j := 21) (t := 187) rfl rfl rfl rfl (s_val (v_move rfl) rfl rfl ?_)
        refine g_step_yes (j := 21) (t := 187) rfl rfl rfl rfl (s_val (v_not rfl) rfl rfl ?_)
        refine g_step_yes (j := 21) (t := 187) rfl rfl rfl rfl (s_val (v_move rfl) rfl rfl ?_)
        refine g_split 190 rfl (fun hg190 => ?_) (fun hg190 => ?_)
        ·
         try simp only [decide_eq_true_eq, decide_eq_false_iff_not, Bool.not_eq_true', Bool.not_eq_false', Bool.not_eq_eq_eq_not, Bool.not_true, Bool.not_false, Bool.and_eq_true, Bool.or_eq_true, Bool.or_eq_false_iff, beq_iff_eq, beq_eq_false_iff_ne, ne_eq, Int.not_lt, Int.not_le, Decidable.not_not] at hg190
         refine g_step_yes (j := 24) (t := 190) rfl rfl rfl rfl (s_val (v_move rfl) rfl rfl ?_)
         refine g_step_yes (j := 24) (t := 190) rfl rfl rfl rfl (s_val (v_len ty64 rfl (by first | rfl | assumption) (by first | exact List.length_map .. | rfl)) rfl rfl ?_)
         refine g_step_yes (j := 24) (t := 190) rfl rfl rfl rfl (s_val (v_neq rfl rfl) rfl rfl ?_)
         refine g_step_yes (j := 21) (t := 187) rfl rfl rfl rfl (s_val (v_pick_t rfl rfl) rfl rfl ?_)
         refine g_step rfl (s_val (v_pick_f rfl rfl) rfl rfl ?_)
         refine g_nil ?_
         refine g_next hK49 ?_
         first | refine g_keep [1, 2, 7, 8, 16, 195] [] [] (keep_cons rfl (keep_cons rfl (keep_cons rfl (keep_cons rfl (keep_cons rfl (keep_cons rfl keep_nil)))))) lkeep_nil keep_nil rfl ?_ | refine g_keep [1, 2, 7, 8, 16, 195] [] [] rfl rfl rfl rfl ?_
         refine g_cond rfl (fun hc195 => ?_) (fun hc195 => ?_)
         · exfalso; (try simp only [decide_eq_true_eq, decide_eq_false_iff_not, Bool.not_eq_true', Bool.not_eq_false', Bool.not_eq_eq_eq_not, Bool.not_true, Bool.not_false, Bool.and_eq_true, Bool.or_eq_true, Bool.or_eq_false_iff, beq_iff_eq, beq_eq_false_iff_ne, ne_eq, Int.not_lt, Int.not_le, Decidable.not_not] at hc195); first | (simp at hc195; done) | exact hc195 rfl
         ·
          try simp only [decide_eq_true_eq, decide_eq_false_iff_not, Bool.not_eq_true', Bool.not_eq_false', Bool.not_eq_eq_eq_not, Bool.not_true, Bool.not_false, Bool.and_eq_true, Bool.or_eq_true, Bool.or_eq_false_iff, beq_iff_eq, beq_eq_false_iff_ne, ne_eq, Int.not_lt, Int.not_le, Decidable.not_not] at hc195
          refine g_skip ?_
          refine g_block_normal ?_
          refine g_next hK40 ?_
          refine g_region ?_
          refine g_step rfl (s_val (v_move rfl) rfl rfl ?_)
          refine g_step rfl (s_val (v_add rfl rfl (by omega)) rfl rfl ?_)
          refine g_step rfl (s_val (v_assign rfl) rfl rfl ?_)
          refine g_nil ?_
          first | refine g_keep [1, 2, 7, 8, 16] [] [] (keep_cons rfl (keep_cons rfl (keep_cons rfl (keep_cons rfl (keep_cons rfl keep_nil))))) lkeep_nil keep_nil rfl ?_ | refine g_keep [1, 2, 7, 8, 16] [] [] rfl rfl rfl rfl ?_
          exact g_round _ (by omega) ⟨j + 1, by omega, rfl, rfl, rfl, rfl, rfl⟩
        · exfalso; (try simp only [decide_eq_true_eq, decide_eq_false_iff_not, Bool.not_eq_true', Bool.not_eq_false', Bool.not_eq_eq_eq_not, Bool.not_true, Bool.not_false, Bool.and_eq_true, Bool.or_eq_true, Bool.or_eq_false_iff, beq_iff_eq, beq_eq_false_iff_ne, ne_eq, Int.not_lt, Int.not_le, Decidable.not_not] at hg190); simp at hg190
     ·
      rw [hgw]
      have hRw := rel_row hRj (mem_get hw)
      refine g_step rfl (s_val (v_move rfl) rfl rfl ?_)
      refine g_step rfl (s_val (v_move rfl) rfl rfl ?_)
      refine g_step rfl (s_val (v_geq rfl rfl) rfl rfl ?_)
      refine g_step rfl (s_val (v_bool_neq ty4 rfl rfl) rfl rfl ?_)
      refine g_step rfl (s_val (v_move rfl) rfl rfl ?_)
      refine g_split 170 rfl (fun hg170 => ?_) (fun hg170 => ?_)
      · exfalso; (try simp only [decide_eq_true_eq, decide_eq_false_iff_not, Bool.not_eq_true', Bool.not_eq_false', Bool.not_eq_eq_eq_not, Bool.not_true, Bool.not_false, Bool.and_eq_true, Bool.or_eq_true, Bool.or_eq_false_iff, beq_iff_eq, beq_eq_false_iff_ne, ne_eq, Int.not_lt, Int.not_le, Decidable.not_not] at hg170); first | (simp at hg170; done) | (simp at hg170; omega)
      ·
       try simp only [decide_eq_true_eq, decide_eq_false_iff_not, Bool.not_eq_true', Bool.not_eq_false', Bool.not_eq_eq_eq_not, Bool.not_true, Bool.not_false, Bool.and_eq_true, Bool.or_eq_true, Bool.or_eq_false_iff, beq_iff_eq, beq_eq_false_iff_ne, ne_eq, Int.not_lt, Int.not_le, Decidable.not_not] at hg170
       refine g_step_yes (j := 4) (t := 170) rfl rfl rfl rfl (s_val (v_move rfl) rfl rfl ?_)
       refine g_step_yes (j := 4) (t := 170) rfl rfl rfl rfl (s_val (v_move rfl) rfl rfl ?_)
       refine g_split 172 rfl (fun hg172 => ?_) (fun hg172 => ?_)
       ·
        try simp only [decide_eq_true_eq, decide_eq_false_iff_not, Bool.not_eq_true', Bool.not_eq_false', Bool.not_eq_eq_eq_not, Bool.not_true, Bool.not_false, Bool.and_eq_true, Bool.or_eq_true, Bool.or_eq_false_iff, beq_iff_eq, beq_eq_false_iff_ne, ne_eq, Int.not_lt, Int.not_le, Decidable.not_not] at hg172
        refine g_step_yes (j := 6) (t := 172) rfl rfl rfl rfl (s_val (v_move rfl) rfl rfl ?_)
        refine g_step_yes (j := 6) (t := 172) rfl rfl rfl rfl (s_val (v_move rfl) rfl rfl ?_)
        refine g_step_yes (j := 6) (t := 172) rfl rfl rfl rfl (s_val (v_move rfl) rfl rfl ?_)
        refine g_step_yes (j := 6) (t := 172) rfl rfl rfl rfl (s_val (v_indexAddr ty81 ty85 rfl rfl (AV.view_own_all hrm0 rfl) rfl (pairI_at mf rfl (by omega)) rfl) rfl rfl ?_)
        refine g_step_yes (j := 6) (t := 172) rfl rfl rfl rfl (s_val (by first | exact v_fieldAddr ty85 fo85_2 ty70 rfl | exact v_fieldAddr_box ty85 fo85_2 ty70 rfl) rfl rfl ?_)
        refine g_step_yes (j := 6) (t := 172) rfl rfl rfl rfl (s_val (by first | exact v_load ty70 rfl rfl (AV.view_own_all hrm0 rfl) (pairI_at mf rfl (by omega)) rfl | exact v_load_box ty70 rfl rfl (by assumption) rfl) rfl rfl ?_)
        refine g_step_yes (j := 6) (t := 172) rfl rfl rfl rfl (s_val (v_move rfl) rfl rfl ?_)
        refine g_step_yes (j := 6) (t := 172) rfl rfl rfl rfl (s_val (v_indexAddr ty70 ty69 rfl rfl (by first | rfl | assumption) (by first | rfl | exact (rfl : (0 : Int) = ((0 : Nat) : Int)) | exact (Int.toNat_of_nonneg (by omega)).symm) (map_get hw) rfl) rfl rfl ?_)
        refine g_step_yes (j := 6) (t := 172) rfl rfl rfl rfl (s_val (by first | exact v_fieldAddr ty69 fo69_1 ty64 rfl | exact v_fieldAddr_box ty69 fo69_1 ty64 rfl) rfl rfl ?_)
        refine g_step_yes (j := 6) (t := 172) rfl rfl rfl rfl (s_val (by first | exact v_load ty64 rfl rfl (by first | rfl | assumption) (map_get hw) rfl | exact v_load_box ty64 rfl rfl (by assumption) rfl) rfl rfl ?_)
        refine g_step_yes (j := 6) (t := 172) rfl rfl rfl rfl (s_callp rfl rfl rfl (allAlike_ok w.recs w.recs _ _ _ rfl rfl (Nat.le_trans hRw.1 (by decide)) hRw.2) ?_)
        rintro _ rfl
        rw [decide_eq_true rfl]
        refine g_step_yes (j := 6) (t := 172) rfl rfl rfl rfl (s_val (v_not rfl) rfl rfl ?_)
        refine g_step_yes (j := 4) (t := 170) rfl rfl rfl rfl (s_val (v_pick_t rfl rfl) rfl rfl ?_)
        refine g_step rfl (s_val (v_pick_f rfl rfl) rfl rfl ?_)
        refine g_step rfl (s_val (v_move rfl) rfl rfl ?_)
        refine g_split 187 rfl (fun hg187 => ?_) (fun hg187 => ?_)
        · exfalso; (try simp only [decide_eq_true_eq, decide_eq_false_iff_not, Bool.not_eq_true', Bool.not_eq_false', Bool.not_eq_eq_eq_not, Bool.not_true, Bool.not_false, Bool.and_eq_true, Bool.or_eq_true, Bool.or_eq_false_iff, beq_iff_eq, beq_eq_false_iff_ne, ne_eq, Int.not_lt, Int.not_le, Decidable.not_not] at hg187); simp at hg187
        ·
         try simp only [decide_eq_true_eq, decide_eq_false_iff_not, Bool.not_eq_true', Bool.not_eq_false', Bool.not_eq_eq_eq_not, Bool.not_true, Bool.not_false, Bool.and_eq_true, Bool.or_eq_true, Bool.or_eq_false_iff, beq_iff_eq, beq_eq_false_iff_ne, ne_eq, Int.not_lt, Int.not_le, Decidable.not_not] at hg187
         refine g_step_yes (j := 21) (t := 187) rfl rfl rfl rfl (s_val (v_move rfl) rfl rfl ?_)
         refine g_step_yes (j := 21) (t := 187) rfl rfl rfl rfl (s_val (v_not rfl) rfl rfl ?_)
         refine g_step_yes (j := 21) (t := 187) rfl rfl rfl rfl (s_val (v_move rfl) rfl rfl ?_)
         refine g_split 190 rfl (fun hg190 => ?_) (fun hg190 => ?_)
         · exfalso; (try simp only [decide_eq_true_eq, decide_eq_false_iff_not, Bool.not_eq_true', Bool.not_eq_false', Bool.not_eq_eq_eq_not, Bool.not_true, Bool.not_false, Bool.and_eq_true, Bool.or_eq_true, Bool.or_eq_false_iff, beq_iff_eq, beq_eq_false_iff_ne, ne_eq, Int.not_lt, Int.not_le, Decidable.not_not] at hg190); simp at hg190
         ·
          try simp only [decide_eq_true_eq, decide_eq_false_iff_not, Bool.not_eq_true', Bool.not_eq_false', Bool.not_eq_eq_eq_not, Bool.not_true, Bool.not_false, Bool.and_eq_true, Bool.or_eq_true, Bool.or_eq_false_iff, beq_iff_eq, beq_eq_false_iff_ne, ne_eq, Int.not_lt, Int.not_le, Decidable.not_not] at hg190
          refine g_step_no (j := 24) (t := 190) rfl rfl rfl rfl rfl rfl rfl ?_
          refine g_step_no (j := 24) (t := 190) rfl rfl rfl rfl rfl rfl rfl ?_
          refine g_step_no (j := 24) (t := 190) rfl rfl rfl rfl rfl rfl rfl ?_
          refine g_step_yes (j := 21) (t := 187) rfl rfl rfl rfl (s_val (v_pick_f rfl rfl) rfl rfl ?_)
          refine g_step rfl (s_val (v_pick_f rfl rfl) rfl rfl ?_)
          refine g_nil ?_
          refine g_next hK49 ?_
          first | refine g_keep [1, 2, 7, 8, 16, 195] [] [] (keep_cons rfl (keep_cons rfl (keep_cons rfl (keep_cons rfl (keep_cons rfl (keep_cons rfl keep_nil)))))) lkeep_nil keep_nil rfl ?_ | refine g_keep [1, 2, 7, 8, 16, 195] [] [] rfl rfl rfl rfl ?_
          refine g_cond rfl (fun h => by cases h) (fun _ => ?_)
          refine g_skip ?_
          refine g_block_normal ?_
          refine g_next hK40 ?_
          refine g_region ?_
          refine g_step rfl (s_val (v_move rfl) rfl rfl ?_)
          refine g_step rfl (s_val (v_add rfl rfl (by omega)) rfl rfl ?_)
          refine g_step rfl (s_val (v_assign rfl) rfl rfl ?_)
          refine g_nil ?_
          first | refine g_keep [1, 2, 7, 8, 16] [] [] (keep_cons rfl (keep_cons rfl (keep_cons rfl (keep_cons rfl (keep_cons rfl keep_nil))))) lkeep_nil keep_nil rfl ?_ | refine g_keep [1, 2, 7, 8, 16] [] [] rfl rfl rfl rfl ?_
          exact g_round _ (by omega) ⟨j + 1, by omega, rfl, rfl, rfl, rfl, rfl⟩
       · exfalso; (try simp only [decide_eq_true_eq, decide_eq_false_iff_not, Bool.not_eq_true', Bool.not_eq_false', Bool.not_eq_eq_eq_not, Bool.not_true, Bool.not_false, Bool.and_eq_true, Bool.or_eq_true, Bool.or_eq_false_iff, beq_iff_eq, beq_eq_false_iff_ne, ne_eq, Int.not_lt, Int.not_le, Decidable.not_not] at hg172); simp at hg172
   ·
    try simp only [decide_eq_true_eq, decide_eq_false_iff_not, Bool.not_eq_true', Bool.not_eq_false', Bool.not_eq_eq_eq_not, Bool.not_true, Bool.not_false, Bool.and_eq_true, Bool.or_eq_true, Bool.or_eq_false_iff, beq_iff_eq, beq_eq_false_iff_ne, ne_eq, Int.not_lt, Int.not_le, Decidable.not_not] at hc117
    refine g_exit ?_
    refine g_then_exit ?_
    refine g_then_exit ?_
    refine g_block_same ?_
    refine g_next hK36 ?_
    refine g_seq (fun K50 hK50 => ?_)
    refine g_region ?_
    refine g_step rfl (s_callp rfl rfl rfl (awake26_ok _) ?_)
    rintro _ rfl
    refine g_step rfl (s_val (v_assign rfl) rfl rfl ?_)
    refine g_nil ?_
    refine g_next hK50 ?_
    refine g_ret ?_
    refine g_end1 (.inl rfl) Try.results8 (.tmp rfl) [] (ASub.refl _) (by first | exact hs_H | exact hs_H0 | exact AHeap.sub_refl _) (fun p hp => by cases hp) ⟨rfl, ?_⟩
    rfl

end Go.Proofs.Ytobigfbgaiglkaa

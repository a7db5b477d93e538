import Derived.Test.YtgipbhfblmblcaaMember2
import Derived.Test.YtgipbhfblmblcaaPMember2
set_option maxHeartbeats 8000000
set_option linter.unusedSimpArgs false
set_option linter.unusedVariables false
set_option maxRecDepth 100000
namespace Go.Proofs.Ytgipbhfblmblcaa
open Go Go.Proofs.Ytgipbhfblmblcaa.AM
theorem do25_ok (me room : Int) (l : List Rc) (a : Ac) (G : AHeap) (hm : MInv me room l) (hb : Small a.rc.bag) : PCalls Try.prog 30 [mdl me room l, encAc a] G (fun v => v = .tup [mdl me room (doL me room l a).1, .int .i64 (doL me room l a).2]) := by
  refine LCalls.intro 218 fi30 rfl Try.ntmps30 rfl (fun _ h => h.elim) (fun H hH w0 hw0 => ?_)
  obtain ⟨o, ho⟩ := hm.o
  have hro : (rfind l me).1 = o := by rw [rfind_fst, ho]; rfl
  have hs := hm.b
  have hlen := hm.len
  have hso := hs o (fnd_in ho)
  have ho9 := recValid_ids (hm.valid ho)
  have hsY : Small (rfind l a.rc.id).1.bag := rfind_small hs
  have r9 : ¬ (recValid a.rc = false) → recValid a.rc = true := fun h => by simpa using h
  refine g_seq (fun K0 hK0 => ?_)
  refine g_region ?_
  refine g_step rfl (s_box rfl rfl rfl rfl ?_)
  refine g_step rfl (s_box rfl rfl rfl rfl ?_)
  refine g_step rfl (s_alloc (av := (.agg [(.int .i64 0), (.int .i64 0), .nil0])) ty61 rfl rfl rfl rfl ?_)
  refine g_step rfl (s_val (v_assign rfl) rfl rfl ?_)
  refine g_nil ?_
  refine g_next hK0 ?_
  refine g_seq (fun K1 hK1 => ?_)
  refine g_region ?_
  refine g_step rfl (s_fieldAddr ty61 fo61_2 ty22 rfl rfl ?_)
  refine g_step rfl (s_val (v_loadl ty22 rfl rfl rfl rfl) rfl rfl ?_)
  refine g_step rfl (s_fieldAddr ty61 fo61_0 ty3 rfl rfl ?_)
  refine g_step rfl (s_val (v_loadl ty3 rfl rfl rfl rfl) rfl rfl ?_)
  refine g_step rfl (s_callp rfl rfl rfl (find_ok l me _ _ rfl (by omega) hs) ?_)
  rintro _ rfl
  rw [hro]
  refine g_step rfl (s_val (v_move rfl) rfl rfl ?_)
  refine g_step rfl (s_val (v_extract rfl rfl) rfl rfl ?_)
  refine g_step rfl (s_val (v_extract rfl rfl) rfl rfl ?_)
  refine g_step rfl (s_alloc (av := (.agg [(.int .i64 0), (.int .i64 0), (.int .i64 0), (.int .i64 0), (.int .i64 0), (.bool false), .nil0])) ty46 rfl rfl rfl rfl ?_)
  refine g_step rfl (s_store_all ty46 rfl rfl rfl rfl rfl rfl ?_)
  refine g_step rfl (s_val (v_assign rfl) rfl rfl ?_)
  refine g_nil ?_
  refine g_next hK1 ?_
  refine g_seq (fun K2 hK2 => ?_)
  refine g_region ?_
  refine g_step rfl (s_fieldAddr ty61 fo61_2 ty22 rfl rfl ?_)
  refine g_step rfl (s_val (v_loadl ty22 rfl rfl rfl rfl) rfl rfl ?_)
  refine g_step rfl (s_fieldAddr ty65 fo65_1 ty46 rfl rfl ?_)
  refine g_step rfl (s_fieldAddr ty46 fo46_0 ty3 rfl rfl ?_)
  refine g_step rfl (s_val (v_loadl ty3 rfl rfl rfl rfl) rfl rfl ?_)
  refine g_step rfl (s_callp rfl rfl rfl (find_ok l a.rc.id _ _ rfl (by omega) hs) ?_)
  rintro _ rfl
  refine g_step rfl (s_val (v_move rfl) rfl rfl ?_)
  refine g_step rfl (s_val (v_extract rfl rfl) rfl rfl ?_)
  refine g_step rfl (s_val (v_extract rfl rfl) rfl rfl ?_)
  refine g_step rfl (s_alloc (av := (.agg [(.int .i64 0), (.int .i64 0), (.int .i64 0), (.int .i64 0), (.int .i64 0), (.bool false), .nil0])) ty46 rfl rfl rfl rfl ?_)
  refine g_step rfl (s_store_all ty46 rfl rfl rfl rfl rfl rfl ?_)
  refine g_step rfl (s_val (v_assign rfl) rfl rfl ?_)
  refine g_nil ?_
  refine g_next hK2 ?_
  refine g_seq (fun K3 hK3 => ?_)
  refine g_draw (n := 10) (fun j => !([9] : List Nat).contains j) rfl rfl ?_
  refine m_takel 0 rfl rfl (by kernel_rfl) (by kernel_rfl) (by kernel_rfl) (fun _ _ _ _ h => h) (vl_fieldAddr ty61 fo61_0 ty3 rfl) rfl rfl ?_
  refine m_take 1 true rfl rfl (by kernel_rfl) (by kernel_rfl) (by kernel_rfl) (fun _ _ _ _ h => h) (v_loadl ty3 rfl rfl rfl rfl) rfl rfl ?_
  refine m_takel 2 rfl rfl (by kernel_rfl) (by kernel_rfl) (by kernel_rfl) (fun _ _ _ _ h => h) (vl_fieldAddr ty61 fo61_1 ty3 rfl) rfl rfl ?_
  refine m_take 3 true rfl rfl (by kernel_rfl) (by kernel_rfl) (by kernel_rfl) (fun _ _ _ _ h => h) (v_loadl ty3 rfl rfl rfl rfl) rfl rfl ?_
  refine m_takel 4 rfl rfl (by kernel_rfl) (by kernel_rfl) (by kernel_rfl) (fun _ _ _ _ h => h) (vl_fieldAddr ty61 fo61_2 ty22 rfl) rfl rfl ?_
  refine m_take 5 true rfl rfl (by kernel_rfl) (by kernel_rfl) (by kernel_rfl) (fun _ _ _ _ h => h) (v_loadl ty22 rfl rfl rfl rfl) rfl rfl ?_
  refine m_all (is := [6, 8]) (by kernel_rfl) rfl (fun _ _ _ => trivial) (fun i hi => ?_)
  rcases (by simpa using hi : i = 6 ∨ i = 8) with rfl | rfl
  · refine ⟨_, rfl, .inl ⟨rfl, ?_⟩⟩
    refine sm_callp rfl rfl rfl (recCopy_ok l _ _ rfl (by omega) hs) ?_
    rintro _ rfl
    refine m_take 7 false rfl rfl (by kernel_rfl) (by kernel_rfl) (by kernel_rfl) (fun _ _ _ _ h => h) (v_build (vs := [(0, _), (1, _), (2, _)]) (zs := [(.int .i64 0), (.int .i64 0), .nil0]) (cells := [_, _, _]) ty61 pl61 rfl rfl rfl) rfl rfl ?_
    refine m_one 8 (by kernel_rfl) rfl rfl ?_
    refine sm_alloc (av := (.agg [(.int .i64 0), (.int .i64 0), .nil0])) ty61 rfl rfl rfl rfl ?_
    refine m_one 9 (by kernel_rfl) rfl rfl ?_
    refine sm_any rfl (s_store_all ty61 rfl rfl rfl rfl rfl rfl ?_)
    refine m_done (by kernel_rfl) ?_
    refine g_next hK3 ?_
    refine g_seq (fun K4 hK4 => ?_)
    refine g_seq (fun K5 hK5 => ?_)
    refine g_region ?_
    refine g_step rfl (s_fieldAddr ty65 fo65_0 ty3 rfl rfl ?_)
    refine g_step rfl (s_val (v_loadl ty3 rfl rfl rfl rfl) rfl rfl ?_)
    refine g_step rfl (s_val (v_eql rfl rfl) rfl rfl ?_)
    refine g_nil ?_
    refine g_next hK5 ?_
    refine g_cond rfl (fun hc41 => ?_) (fun hc41 => ?_)
    · try simp only [decide_eq_true_eq, decide_eq_false_iff_not, Bool.not_eq_true', Bool.not_eq_false', Bool.not_eq_eq_eq_not, Bool.not_true, Bool.not_false, Bool.and_eq_true, Bool.or_eq_true, Bool.or_eq_false_iff, beq_iff_eq, beq_eq_false_iff_ne, ne_eq, Int.not_lt, Int.not_le, Decidable.not_not] at hc41
      have hk0 : a.k = 0 := by omega
      refine g_seq (fun K6 hK6 => ?_)
      refine g_seq (fun K7 hK7 => ?_)
      refine g_region ?_
      refine g_step rfl (s_fieldAddr ty65 fo65_1 ty46 rfl rfl ?_)
      refine g_step rfl (s_val (v_loadl_part (cs := [_, _, _, _, _, _, _]) ty46 rfl rfl rfl rfl rfl rfl) rfl rfl ?_)
      refine g_step rfl (s_callp rfl rfl rfl (recValid_ok a.rc _ hb) ?_)
      rintro _ rfl
      refine g_step rfl (s_val (v_not rfl) rfl rfl ?_)
      refine g_nil ?_
      refine g_next hK7 ?_
      first | refine g_keep [9, 45] [2, 3, 4, 6, 8, 10] [2, 3, 4, 6, 8, 10] (keep_cons rfl (keep_cons rfl keep_nil)) (lkeep_cons rfl (lkeep_cons rfl (lkeep_cons rfl (lkeep_cons rfl (lkeep_cons rfl (lkeep_cons rfl lkeep_nil)))))) (keep_cons rfl (keep_cons rfl (keep_cons rfl (keep_cons rfl (keep_cons rfl (keep_cons rfl keep_nil)))))) rfl ?_ | refine g_keep [9, 45] [2, 3, 4, 6, 8, 10] [2, 3, 4, 6, 8, 10] rfl rfl rfl rfl ?_
      refine g_cond rfl (fun hc45 => ?_) (fun hc45 => ?_)
      · try simp only [decide_eq_true_eq, decide_eq_false_iff_not, Bool.not_eq_true', Bool.not_eq_false', Bool.not_eq_eq_eq_not, Bool.not_true, Bool.not_false, Bool.and_eq_true, Bool.or_eq_true, Bool.or_eq_false_iff, beq_iff_eq, beq_eq_false_iff_ne, ne_eq, Int.not_lt, Int.not_le, Decidable.not_not] at hc45
        refine g_seq (fun K8 hK8 => ?_)
        refine g_region ?_
        have hR : doL me room l a = (l, 0) := by rw [doL, if_pos hk0, joinT]; exact if_pos (by simp_all)
        refine g_step rfl (s_val (by first | exact v_loadl_all ty61 rfl rfl rfl rfl rfl | exact v_loadl_part (cs := [_, _, _]) ty61 rfl rfl rfl rfl rfl rfl) rfl rfl ?_)
        refine g_step rfl (s_store_all ty61 rfl rfl rfl rfl rfl rfl ?_)
        refine g_step rfl (s_val (v_assign rfl) rfl rfl ?_)
        refine g_nil ?_
        refine g_next hK8 ?_
        refine g_ret ?_
        refine g_then_ret ?_
        refine g_then_ret ?_
        refine g_end2 (.inl rfl) Try.results30 (.agg ty61 rfl rfl rfl rfl rfl) (.tmp rfl) [] (ASub.refl _) (AHeap.sub_refl _) (fun p hp => by cases hp) ⟨rfl, ?_⟩
        first | (rw [hR]; rfl; done) | (rw [hR]; rfl; rfl)
      · try simp only [decide_eq_true_eq, decide_eq_false_iff_not, Bool.not_eq_true', Bool.not_eq_false', Bool.not_eq_eq_eq_not, Bool.not_true, Bool.not_false, Bool.and_eq_true, Bool.or_eq_true, Bool.or_eq_false_iff, beq_iff_eq, beq_eq_false_iff_ne, ne_eq, Int.not_lt, Int.not_le, Decidable.not_not] at hc45
        refine g_skip ?_
        refine g_next hK6 ?_
        refine g_seq (fun K9 hK9 => ?_)
        refine g_seq (fun K10 hK10 => ?_)
        refine g_region ?_
        have hv : ¬ (recValid a.rc = false) := by simp_all
        have hx9 := recValid_ids (r9 hv)
        refine g_step rfl (s_fieldAddr ty65 fo65_1 ty46 rfl rfl ?_)
        refine g_step rfl (s_fieldAddr ty46 fo46_0 ty3 rfl rfl ?_)
        refine g_step rfl (s_val (v_loadl ty3 rfl rfl rfl rfl) rfl rfl ?_)
        refine g_step rfl (s_fieldAddr ty61 fo61_0 ty3 rfl rfl ?_)
        refine g_step rfl (s_val (v_loadl ty3 rfl rfl rfl rfl) rfl rfl ?_)
        refine g_step rfl (s_val (v_eql rfl rfl) rfl rfl ?_)
        refine g_nil ?_
        refine g_next hK10 ?_
        refine g_cond rfl (fun hc52 => ?_) (fun hc52 => ?_)
        · try simp only [decide_eq_true_eq, decide_eq_false_iff_not, Bool.not_eq_true', Bool.not_eq_false', Bool.not_eq_eq_eq_not, Bool.not_true, Bool.not_false, Bool.and_eq_true, Bool.or_eq_true, Bool.or_eq_false_iff, beq_iff_eq, beq_eq_false_iff_ne, ne_eq, Int.not_lt, Int.not_le, Decidable.not_not] at hc52
          have hid : a.rc.id = me := by omega
          refine g_seq (fun K11 hK11 => ?_)
          refine g_region ?_
          refine g_step rfl (s_fieldAddr ty65 fo65_1 ty46 rfl rfl ?_)
          refine g_step rfl (s_fieldAddr ty46 fo46_1 ty3 rfl rfl ?_)
          refine g_step rfl (s_val (v_loadl ty3 rfl rfl rfl rfl) rfl rfl ?_)
          refine g_step rfl (s_fieldAddr ty46 fo46_1 ty3 rfl rfl ?_)
          refine g_step rfl (s_val (v_loadl ty3 rfl rfl rfl rfl) rfl rfl ?_)
          refine g_step rfl (s_val (v_gtr rfl rfl) rfl rfl ?_)
          refine g_step rfl (s_val (v_move rfl) rfl rfl ?_)
          refine g_split 59 rfl (fun hg59 => ?_) (fun hg59 => ?_)
          · try simp only [decide_eq_true_eq, decide_eq_false_iff_not, Bool.not_eq_true', Bool.not_eq_false', Bool.not_eq_eq_eq_not, Bool.not_true, Bool.not_false, Bool.and_eq_true, Bool.or_eq_true, Bool.or_eq_false_iff, beq_iff_eq, beq_eq_false_iff_ne, ne_eq, Int.not_lt, Int.not_le, Decidable.not_not] at hg59
            refine g_step_no (j := 6) (t := 59) rfl rfl rfl rfl rfl rfl rfl ?_
            refine g_step_no (j := 6) (t := 59) rfl rfl rfl rfl rfl rfl rfl ?_
            refine g_step_no (j := 6) (t := 59) rfl rfl rfl rfl rfl rfl rfl ?_
            refine g_step_no (j := 6) (t := 59) rfl rfl rfl rfl rfl rfl rfl ?_
            refine g_step_no (j := 6) (t := 59) rfl rfl rfl rfl rfl rfl rfl ?_
            refine g_step_no (j := 6) (t := 59) rfl rfl rfl rfl rfl rfl rfl ?_
            refine g_step_no (j := 6) (t := 59) rfl rfl rfl rfl rfl rfl rfl ?_
            refine g_step_und (j := 13) (t := 66) rfl rfl rfl rfl rfl rfl ?_
            refine g_step_und (j := 13) (t := 66) rfl rfl rfl rfl rfl rfl ?_
            refine g_step_und (j := 13) (t := 66) rfl rfl rfl rfl rfl rfl ?_
            refine g_step_und (j := 13) (t := 66) rfl rfl rfl rfl rfl rfl ?_
            refine g_step_no (j := 6) (t := 59) rfl rfl rfl rfl rfl rfl rfl ?_
            refine g_step rfl (s_val (v_pick_t rfl rfl) rfl rfl ?_)
            refine g_step rfl (s_val (v_assign rfl) rfl rfl ?_)
            refine g_nil ?_
            refine g_next hK11 ?_
            refine g_seq (fun K12 hK12 => ?_)
            refine g_seq (fun K13 hK13 => ?_)
            refine g_region ?_
            refine g_step rfl (s_val (v_move rfl) rfl rfl ?_)
            refine g_step rfl (s_val (v_not rfl) rfl rfl ?_)
            refine g_step rfl (s_val (v_move rfl) rfl rfl ?_)
            refine g_split 75 rfl (fun hg75 => ?_) (fun hg75 => ?_)
            · try simp only [decide_eq_true_eq, decide_eq_false_iff_not, Bool.not_eq_true', Bool.not_eq_false', Bool.not_eq_eq_eq_not, Bool.not_true, Bool.not_false, Bool.and_eq_true, Bool.or_eq_true, Bool.or_eq_false_iff, beq_iff_eq, beq_eq_false_iff_ne, ne_eq, Int.not_lt, Int.not_le, Decidable.not_not] at hg75
              refine g_step_no (j := 2) (t := 75) rfl rfl rfl rfl rfl rfl rfl ?_
              refine g_step_no (j := 2) (t := 75) rfl rfl rfl rfl rfl rfl rfl ?_
              refine g_step_no (j := 2) (t := 75) rfl rfl rfl rfl rfl rfl rfl ?_
              refine g_step rfl (s_val (v_pick_t rfl rfl) rfl rfl ?_)
              refine g_step rfl (s_val (v_move rfl) rfl rfl ?_)
              refine g_step_no (j := 7) (t := 80) rfl rfl rfl rfl rfl rfl rfl ?_
              refine g_step_no (j := 7) (t := 80) rfl rfl rfl rfl rfl rfl rfl ?_
              refine g_step_no (j := 7) (t := 80) rfl rfl rfl rfl rfl rfl rfl ?_
              refine g_step_no (j := 7) (t := 80) rfl rfl rfl rfl rfl rfl rfl ?_
              refine g_step rfl (s_val (v_pick_t rfl rfl) rfl rfl ?_)
              refine g_nil ?_
              refine g_next hK13 ?_
              first | refine g_keep [85] [2, 3, 4, 6, 10] [2, 3, 4, 6, 10] (keep_cons rfl keep_nil) (lkeep_cons rfl (lkeep_cons rfl (lkeep_cons rfl (lkeep_cons rfl (lkeep_cons rfl lkeep_nil))))) (keep_cons rfl (keep_cons rfl (keep_cons rfl (keep_cons rfl (keep_cons rfl keep_nil))))) rfl ?_ | refine g_keep [85] [2, 3, 4, 6, 10] [2, 3, 4, 6, 10] rfl rfl rfl rfl ?_
              refine g_cond rfl (fun _ => ?_) (fun h => by cases h)
              refine g_seq (fun K14 hK14 => ?_)
              refine g_region ?_
              have hR : doL me room l a = (l, 0) := by first | (rw [doL, if_pos hk0, joinT, if_neg hv, if_pos hid, refT, ho]; exact if_pos (by omega)) | (exfalso; simp_all; done) | (exfalso; simp_all; omega)
              refine g_step rfl (s_val (by first | exact v_loadl_all ty61 rfl rfl rfl rfl rfl | exact v_loadl_part (cs := [_, _, _]) ty61 rfl rfl rfl rfl rfl rfl) rfl rfl ?_)
              refine g_step rfl (s_store_all ty61 rfl rfl rfl rfl rfl rfl ?_)
              refine g_step rfl (s_val (v_assign rfl) rfl rfl ?_)
              refine g_nil ?_
              refine g_next hK14 ?_
              refine g_ret ?_
              refine g_then_ret ?_
              refine g_then_ret ?_
              refine g_then_ret ?_
              refine g_end2 (.inl rfl) Try.results30 (.agg ty61 rfl rfl rfl rfl rfl) (.tmp rfl) [] (ASub.refl _) (AHeap.sub_refl _) (fun p hp => by cases hp) ⟨rfl, ?_⟩
              first | (rw [hR]; rfl; done) | (rw [hR]; rfl; rfl)
            · try simp only [decide_eq_true_eq, decide_eq_false_iff_not, Bool.not_eq_true', Bool.not_eq_false', Bool.not_eq_eq_eq_not, Bool.not_true, Bool.not_false, Bool.and_eq_true, Bool.or_eq_true, Bool.or_eq_false_iff, beq_iff_eq, beq_eq_false_iff_ne, ne_eq, Int.not_lt, Int.not_le, Decidable.not_not] at hg75
              refine g_step_yes (j := 2) (t := 75) rfl rfl rfl rfl (s_fieldAddr ty46 fo46_2 ty3 rfl rfl ?_)
              refine g_step_yes (j := 2) (t := 75) rfl rfl rfl rfl (s_val (v_loadl ty3 rfl rfl rfl rfl) rfl rfl ?_)
              refine g_step_yes (j := 2) (t := 75) rfl rfl rfl rfl (s_val (v_eql rfl rfl) rfl rfl ?_)
              refine g_step rfl (s_val (v_pick_f rfl rfl) rfl rfl ?_)
              refine g_step rfl (s_val (v_move rfl) rfl rfl ?_)
              refine g_split 80 rfl (fun hg80 => ?_) (fun hg80 => ?_)
              · try simp only [decide_eq_true_eq, decide_eq_false_iff_not, Bool.not_eq_true', Bool.not_eq_false', Bool.not_eq_eq_eq_not, Bool.not_true, Bool.not_false, Bool.and_eq_true, Bool.or_eq_true, Bool.or_eq_false_iff, beq_iff_eq, beq_eq_false_iff_ne, ne_eq, Int.not_lt, Int.not_le, Decidable.not_not] at hg80
                refine g_step_no (j := 7) (t := 80) rfl rfl rfl rfl rfl rfl rfl ?_
                refine g_step_no (j := 7) (t := 80) rfl rfl rfl rfl rfl rfl rfl ?_
                refine g_step_no (j := 7) (t := 80) rfl rfl rfl rfl rfl rfl rfl ?_
                refine g_step_no (j := 7) (t := 80) rfl rfl rfl rfl rfl rfl rfl ?_
                refine g_step rfl (s_val (v_pick_t rfl rfl) rfl rfl ?_)
                refine g_nil ?_
                refine g_next hK13 ?_
                first | refine g_keep [85] [2, 3, 4, 6, 10] [2, 3, 4, 6, 10] (keep_cons rfl keep_nil) (lkeep_cons rfl (lkeep_cons rfl (lkeep_cons rfl (lkeep_cons rfl (lkeep_cons rfl lkeep_nil))))) (keep_cons rfl (keep_cons rfl (keep_cons rfl (keep_cons rfl (keep_cons rfl keep_nil))))) rfl ?_ | refine g_keep [85] [2, 3, 4, 6, 10] [2, 3, 4, 6, 10] rfl rfl rfl rfl ?_
                refine g_cond rfl (fun _ => ?_) (fun h => by cases h)
                refine g_seq (fun K15 hK15 => ?_)
                refine g_region ?_
                have hR : doL me room l a = (l, 0) := by first | (rw [doL, if_pos hk0, joinT, if_neg hv, if_pos hid, refT, ho]; exact if_pos (by omega)) | (exfalso; simp_all; done) | (exfalso; simp_all; omega)
                refine g_step rfl (s_val (by first | exact v_loadl_all ty61 rfl rfl rfl rfl rfl | exact v_loadl_part (cs := [_, _, _]) ty61 rfl rfl rfl rfl rfl rfl) rfl rfl ?_)
                refine g_step rfl (s_store_all ty61 rfl rfl rfl rfl rfl rfl ?_)
                refine g_step rfl (s_val (v_assign rfl) rfl rfl ?_)
                refine g_nil ?_
                refine g_next hK15 ?_
                refine g_ret ?_
                refine g_then_ret ?_
                refine g_then_ret ?_
                refine g_then_ret ?_
                refine g_end2 (.inl rfl) Try.results30 (.agg ty61 rfl rfl rfl rfl rfl) (.tmp rfl) [] (ASub.refl _) (AHeap.sub_refl _) (fun p hp => by cases hp) ⟨rfl, ?_⟩
                first | (rw [hR]; rfl; done) | (rw [hR]; rfl; rfl)
              · try simp only [decide_eq_true_eq, decide_eq_false_iff_not, Bool.not_eq_true', Bool.not_eq_false', Bool.not_eq_eq_eq_not, Bool.not_true, Bool.not_false, Bool.and_eq_true, Bool.or_eq_true, Bool.or_eq_false_iff, beq_iff_eq, beq_eq_false_iff_ne, ne_eq, Int.not_lt, Int.not_le, Decidable.not_not] at hg80
                refine g_step_yes (j := 7) (t := 80) rfl rfl rfl rfl (s_fieldAddr ty65 fo65_1 ty46 rfl rfl ?_)
                refine g_step_yes (j := 7) (t := 80) rfl rfl rfl rfl (s_fieldAddr ty46 fo46_1 ty3 rfl rfl ?_)
                refine g_step_yes (j := 7) (t := 80) rfl rfl rfl rfl (s_val (v_loadl ty3 rfl rfl rfl rfl) rfl rfl ?_)
                refine g_step_yes (j := 7) (t := 80) rfl rfl rfl rfl (s_val (v_geq rfl rfl) rfl rfl ?_)
                refine g_step rfl (s_val (v_pick_f rfl rfl) rfl rfl ?_)
                refine g_nil ?_
                refine g_next hK13 ?_
                first | refine g_keep [85] [2, 3, 4, 6, 10] [2, 3, 4, 6, 10] (keep_cons rfl keep_nil) (lkeep_cons rfl (lkeep_cons rfl (lkeep_cons rfl (lkeep_cons rfl (lkeep_cons rfl lkeep_nil))))) (keep_cons rfl (keep_cons rfl (keep_cons rfl (keep_cons rfl (keep_cons rfl keep_nil))))) rfl ?_ | refine g_keep [85] [2, 3, 4, 6, 10] [2, 3, 4, 6, 10] rfl rfl rfl rfl ?_
                refine g_cond rfl (fun hc85 => ?_) (fun hc85 => ?_)
                · try simp only [decide_eq_true_eq, decide_eq_false_iff_not, Bool.not_eq_true', Bool.not_eq_false', Bool.not_eq_eq_eq_not, Bool.not_true, Bool.not_false, Bool.and_eq_true, Bool.or_eq_true, Bool.or_eq_false_iff, beq_iff_eq, beq_eq_false_iff_ne, ne_eq, Int.not_lt, Int.not_le, Decidable.not_not] at hc85
                  refine g_seq (fun K16 hK16 => ?_)
                  refine g_region ?_
                  have hR : doL me room l a = (l, 0) := by first | (rw [doL, if_pos hk0, joinT, if_neg hv, if_pos hid, refT, ho]; exact if_pos (by omega)) | (exfalso; simp_all; done) | (exfalso; simp_all; omega)
                  refine g_step rfl (s_val (by first | exact v_loadl_all ty61 rfl rfl rfl rfl rfl | exact v_loadl_part (cs := [_, _, _]) ty61 rfl rfl rfl rfl rfl rfl) rfl rfl ?_)
                  refine g_step rfl (s_store_all ty61 rfl rfl rfl rfl rfl rfl ?_)
                  refine g_step rfl (s_val (v_assign rfl) rfl rfl ?_)
                  refine g_nil ?_
                  refine g_next hK16 ?_
                  refine g_ret ?_
                  refine g_then_ret ?_
                  refine g_then_ret ?_
                  refine g_then_ret ?_
                  refine g_end2 (.inl rfl) Try.results30 (.agg ty61 rfl rfl rfl rfl rfl) (.tmp rfl) [] (ASub.refl _) (AHeap.sub_refl _) (fun p hp => by cases hp) ⟨rfl, ?_⟩
                  first | (rw [hR]; rfl; done) | (rw [hR]; rfl; rfl)
                · try simp only [decide_eq_true_eq, decide_eq_false_iff_not, Bool.not_eq_true', Bool.not_eq_false', Bool.not_eq_eq_eq_not, Bool.not_true, Bool.not_false, Bool.and_eq_true, Bool.or_eq_true, Bool.or_eq_false_iff, beq_iff_eq, beq_eq_false_iff_ne, ne_eq, Int.not_lt, Int.not_le, Decidable.not_not] at hc85
                  refine g_skip ?_
                  refine g_next hK12 ?_
                  refine g_seq (fun K17 hK17 => ?_)
                  refine g_region ?_
                  have hR : doL me room l a = (rput l (wthInc o (a.rc.inc + 1)), 4) := by first | (rw [doL, if_pos hk0, joinT, if_neg hv, if_pos hid, refT, ho]; exact if_neg (by omega)) | (exfalso; simp_all; done) | (exfalso; simp_all; omega)
                  refine g_step rfl (s_fieldAddr ty65 fo65_1 ty46 rfl rfl ?_)
                  refine g_step rfl (s_fieldAddr ty46 fo46_1 ty3 rfl rfl ?_)
                  refine g_step rfl (s_val (v_loadl ty3 rfl rfl rfl rfl) rfl rfl ?_)
                  refine g_step rfl (s_val (v_add rfl rfl (by omega)) rfl rfl ?_)
                  refine g_step rfl (s_fieldAddr ty46 fo46_1 ty3 rfl rfl ?_)
                  refine g_step rfl (s_store (new := (encR (wthInc o (a.rc.inc + 1)))) ty3 rfl rfl rfl rfl rfl rfl rfl ?_)
                  refine g_nil ?_
                  refine g_next hK17 ?_
                  refine g_seq (fun K18 hK18 => ?_)
                  refine g_region ?_
                  refine g_step rfl (s_fieldAddr ty61 fo61_2 ty22 rfl rfl ?_)
                  refine g_step rfl (s_val (v_loadl ty22 rfl rfl rfl rfl) rfl rfl ?_)
                  refine g_step rfl (s_val (by first | exact v_loadl_all ty46 rfl rfl rfl rfl rfl | exact v_loadl_part (cs := [_, _, _, _, _, _, _]) ty46 rfl rfl rfl rfl rfl rfl) rfl rfl ?_)
                  refine g_step rfl (s_callp rfl rfl rfl (put_ok l (wthInc o (a.rc.inc + 1)) _ _ rfl (by omega) hs (hso)) ?_)
                  rintro _ rfl
                  refine g_step rfl (s_fieldAddr ty61 fo61_2 ty22 rfl rfl ?_)
                  refine g_step rfl (s_store (new := (mdl me room (rput l (wthInc o (a.rc.inc + 1))))) ty22 rfl rfl rfl rfl rfl rfl rfl ?_)
                  refine g_nil ?_
                  refine g_next hK18 ?_
                  refine g_seq (fun K19 hK19 => ?_)
                  refine g_region ?_
                  refine g_step rfl (s_val (by first | exact v_loadl_all ty61 rfl rfl rfl rfl rfl | exact v_loadl_part (cs := [_, _, _]) ty61 rfl rfl rfl rfl rfl rfl) rfl rfl ?_)
                  refine g_step rfl (s_store_all ty61 rfl rfl rfl rfl rfl rfl ?_)
                  refine g_step rfl (s_val (v_assign rfl) rfl rfl ?_)
                  refine g_nil ?_
                  refine g_next hK19 ?_
                  refine g_ret ?_
                  refine g_then_ret ?_
                  refine g_then_ret ?_
                  refine g_end2 (.inl rfl) Try.results30 (.agg ty61 rfl rfl rfl rfl rfl) (.tmp rfl) [] (ASub.refl _) (AHeap.sub_refl _) (fun p hp => by cases hp) ⟨rfl, ?_⟩
                  first | (rw [hR]; rfl; done) | (rw [hR]; rfl; rfl)
          · try simp only [decide_eq_true_eq, decide_eq_false_iff_not, Bool.not_eq_true', Bool.not_eq_false', Bool.not_eq_eq_eq_not, Bool.not_true, Bool.not_false, Bool.and_eq_true, Bool.or_eq_true, Bool.or_eq_false_iff, beq_iff_eq, beq_eq_false_iff_ne, ne_eq, Int.not_lt, Int.not_le, Decidable.not_not] at hg59
            refine g_step_yes (j := 6) (t := 59) rfl rfl rfl rfl (s_fieldAddr ty65 fo65_1 ty46 rfl rfl ?_)
            refine g_step_yes (j := 6) (t := 59) rfl rfl rfl rfl (s_fieldAddr ty46 fo46_1 ty3 rfl rfl ?_)
            refine g_step_yes (j := 6) (t := 59) rfl rfl rfl rfl (s_val (v_loadl ty3 rfl rfl rfl rfl) rfl rfl ?_)
            refine g_step_yes (j := 6) (t := 59) rfl rfl rfl rfl (s_fieldAddr ty46 fo46_1 ty3 rfl rfl ?_)
            refine g_step_yes (j := 6) (t := 59) rfl rfl rfl rfl (s_val (v_loadl ty3 rfl rfl rfl rfl) rfl rfl ?_)
            refine g_step_yes (j := 6) (t := 59) rfl rfl rfl rfl (s_val (v_eql rfl rfl) rfl rfl ?_)
            refine g_step_yes (j := 6) (t := 59) rfl rfl rfl rfl (s_val (v_move rfl) rfl rfl ?_)
            refine g_split 66 rfl (fun hg66 => ?_) (fun hg66 => ?_)
            · try simp only [decide_eq_true_eq, decide_eq_false_iff_not, Bool.not_eq_true', Bool.not_eq_false', Bool.not_eq_eq_eq_not, Bool.not_true, Bool.not_false, Bool.and_eq_true, Bool.or_eq_true, Bool.or_eq_false_iff, beq_iff_eq, beq_eq_false_iff_ne, ne_eq, Int.not_lt, Int.not_le, Decidable.not_not] at hg66
              refine g_step_yes (j := 13) (t := 66) rfl rfl rfl rfl (s_fieldAddr ty65 fo65_1 ty46 rfl rfl ?_)
              refine g_step_yes (j := 13) (t := 66) rfl rfl rfl rfl (s_fieldAddr ty46 fo46_2 ty3 rfl rfl ?_)
              refine g_step_yes (j := 13) (t := 66) rfl rfl rfl rfl (s_val (v_loadl ty3 rfl rfl rfl rfl) rfl rfl ?_)
              refine g_step_yes (j := 13) (t := 66) rfl rfl rfl rfl (s_val (v_neq rfl rfl) rfl rfl ?_)
              refine g_step_yes (j := 6) (t := 59) rfl rfl rfl rfl (s_val (v_pick_t rfl rfl) rfl rfl ?_)
              refine g_step rfl (s_val (v_pick_f rfl rfl) rfl rfl ?_)
              refine g_step rfl (s_val (v_assign rfl) rfl rfl ?_)
              refine g_nil ?_
              refine g_next hK11 ?_
              refine g_seq (fun K20 hK20 => ?_)
              refine g_seq (fun K21 hK21 => ?_)
              refine g_region ?_
              refine g_step rfl (s_val (v_move rfl) rfl rfl ?_)
              refine g_step rfl (s_val (v_not rfl) rfl rfl ?_)
              refine g_step rfl (s_val (v_move rfl) rfl rfl ?_)
              refine g_split 75 rfl (fun hg75 => ?_) (fun hg75 => ?_)
              · try simp only [decide_eq_true_eq, decide_eq_false_iff_not, Bool.not_eq_true', Bool.not_eq_false', Bool.not_eq_eq_eq_not, Bool.not_true, Bool.not_false, Bool.and_eq_true, Bool.or_eq_true, Bool.or_eq_false_iff, beq_iff_eq, beq_eq_false_iff_ne, ne_eq, Int.not_lt, Int.not_le, Decidable.not_not] at hg75
                refine g_step_no (j := 2) (t := 75) rfl rfl rfl rfl rfl rfl rfl ?_
                refine g_step_no (j := 2) (t := 75) rfl rfl rfl rfl rfl rfl rfl ?_
                refine g_step_no (j := 2) (t := 75) rfl rfl rfl rfl rfl rfl rfl ?_
                refine g_step rfl (s_val (v_pick_t rfl rfl) rfl rfl ?_)
                refine g_step rfl (s_val (v_move rfl) rfl rfl ?_)
                refine g_step_no (j := 7) (t := 80) rfl rfl rfl rfl rfl rfl rfl ?_
                refine g_step_no (j := 7) (t := 80) rfl rfl rfl rfl rfl rfl rfl ?_
                refine g_step_no (j := 7) (t := 80) rfl rfl rfl rfl rfl rfl rfl ?_
                refine g_step_no (j := 7) (t := 80) rfl rfl rfl rfl rfl rfl rfl ?_
                refine g_step rfl (s_val (v_pick_t rfl rfl) rfl rfl ?_)
                refine g_nil ?_
                refine g_next hK21 ?_
                first | refine g_keep [85] [2, 3, 4, 6, 10] [2, 3, 4, 6, 10] (keep_cons rfl keep_nil) (lkeep_cons rfl (lkeep_cons rfl (lkeep_cons rfl (lkeep_cons rfl (lkeep_cons rfl lkeep_nil))))) (keep_cons rfl (keep_cons rfl (keep_cons rfl (keep_cons rfl (keep_cons rfl keep_nil))))) rfl ?_ | refine g_keep [85] [2, 3, 4, 6, 10] [2, 3, 4, 6, 10] rfl rfl rfl rfl ?_
                refine g_cond rfl (fun _ => ?_) (fun h => by cases h)
                refine g_seq (fun K22 hK22 => ?_)
                refine g_region ?_
                have hR : doL me room l a = (l, 0) := by first | (rw [doL, if_pos hk0, joinT, if_neg hv, if_pos hid, refT, ho]; exact if_pos (by omega)) | (exfalso; simp_all; done) | (exfalso; simp_all; omega)
                refine g_step rfl (s_val (by first | exact v_loadl_all ty61 rfl rfl rfl rfl rfl | exact v_loadl_part (cs := [_, _, _]) ty61 rfl rfl rfl rfl rfl rfl) rfl rfl ?_)
                refine g_step rfl (s_store_all ty61 rfl rfl rfl rfl rfl rfl ?_)
                refine g_step rfl (s_val (v_assign rfl) rfl rfl ?_)
                refine g_nil ?_
                refine g_next hK22 ?_
                refine g_ret ?_
                refine g_then_ret ?_
                refine g_then_ret ?_
                refine g_then_ret ?_
                refine g_end2 (.inl rfl) Try.results30 (.agg ty61 rfl rfl rfl rfl rfl) (.tmp rfl) [] (ASub.refl _) (AHeap.sub_refl _) (fun p hp => by cases hp) ⟨rfl, ?_⟩
                first | (rw [hR]; rfl; done) | (rw [hR]; rfl; rfl)
              · try simp only [decide_eq_true_eq, decide_eq_false_iff_not, Bool.not_eq_true', Bool.not_eq_false', Bool.not_eq_eq_eq_not, Bool.not_true, Bool.not_false, Bool.and_eq_true, Bool.or_eq_true, Bool.or_eq_false_iff, beq_iff_eq, beq_eq_false_iff_ne, ne_eq, Int.not_lt, Int.not_le, Decidable.not_not] at hg75
                refine g_step_yes (j := 2) (t := 75) rfl rfl rfl rfl (s_fieldAddr ty46 fo46_2 ty3 rfl rfl ?_)
                refine g_step_yes (j := 2) (t := 75) rfl rfl rfl rfl (s_val (v_loadl ty3 rfl rfl rfl rfl) rfl rfl ?_)
                refine g_step_yes (j := 2) (t := 75) rfl rfl rfl rfl (s_val (v_eql rfl rfl) rfl rfl ?_)
                refine g_step rfl (s_val (v_pick_f rfl rfl) rfl rfl ?_)
                refine g_step rfl (s_val (v_move rfl) rfl rfl ?_)
                refine g_split 80 rfl (fun hg80 => ?_) (fun hg80 => ?_)
                · try simp only [decide_eq_true_eq, decide_eq_false_iff_not, Bool.not_eq_true', Bool.not_eq_false', Bool.not_eq_eq_eq_not, Bool.not_true, Bool.not_false, Bool.and_eq_true, Bool.or_eq_true, Bool.or_eq_false_iff, beq_iff_eq, beq_eq_false_iff_ne, ne_eq, Int.not_lt, Int.not_le, Decidable.not_not] at hg80
                  refine g_step_no (j := 7) (t := 80) rfl rfl rfl rfl rfl rfl rfl ?_
                  refine g_step_no (j := 7) (t := 80) rfl rfl rfl rfl rfl rfl rfl ?_
                  refine g_step_no (j := 7) (t := 80) rfl rfl rfl rfl rfl rfl rfl ?_
                  refine g_step_no (j := 7) (t := 80) rfl rfl rfl rfl rfl rfl rfl ?_
                  refine g_step rfl (s_val (v_pick_t rfl rfl) rfl rfl ?_)
                  refine g_nil ?_
                  refine g_next hK21 ?_
                  first | refine g_keep [85] [2, 3, 4, 6, 10] [2, 3, 4, 6, 10] (keep_cons rfl keep_nil) (lkeep_cons rfl (lkeep_cons rfl (lkeep_cons rfl (lkeep_cons rfl (lkeep_cons rfl lkeep_nil))))) (keep_cons rfl (keep_cons rfl (keep_cons rfl (keep_cons rfl (keep_cons rfl keep_nil))))) rfl ?_ | refine g_keep [85] [2, 3, 4, 6, 10] [2, 3, 4, 6, 10] rfl rfl rfl rfl ?_
                  refine g_cond rfl (fun _ => ?_) (fun h => by cases h)
                  refine g_seq (fun K23 hK23 => ?_)
                  refine g_region ?_
                  have hR : doL me room l a = (l, 0) := by first | (rw [doL, if_pos hk0, joinT, if_neg hv, if_pos hid, refT, ho]; exact if_pos (by omega)) | (exfalso; simp_all; done) | (exfalso; simp_all; omega)
                  refine g_step rfl (s_val (by first | exact v_loadl_all ty61 rfl rfl rfl rfl rfl | exact v_loadl_part (cs := [_, _, _]) ty61 rfl rfl rfl rfl rfl rfl) rfl rfl ?_)
                  refine g_step rfl (s_store_all ty61 rfl rfl rfl rfl rfl rfl ?_)
                  refine g_step rfl (s_val (v_assign rfl) rfl rfl ?_)
                  refine g_nil ?_
                  refine g_next hK23 ?_
                  refine g_ret ?_
                  refine g_then_ret ?_
                  refine g_then_ret ?_
                  refine g_then_ret ?_
                  refine g_end2 (.inl rfl) Try.results30 (.agg ty61 rfl rfl rfl rfl rfl) (.tmp rfl) [] (ASub.refl _) (AHeap.sub_refl _) (fun p hp => by cases hp) ⟨rfl, ?_⟩
                  first | (rw [hR]; rfl; done) | (rw [hR]; rfl; rfl)
                · try simp only [decide_eq_true_eq, decide_eq_false_iff_not, Bool.not_eq_true', Bool.not_eq_false', Bool.not_eq_eq_eq_not, Bool.not_true, Bool.not_false, Bool.and_eq_true, Bool.or_eq_true, Bool.or_eq_false_iff, beq_iff_eq, beq_eq_false_iff_ne, ne_eq, Int.not_lt, Int.not_le, Decidable.not_not] at hg80
                  refine g_step_yes (j := 7) (t := 80) rfl rfl rfl rfl (s_fieldAddr ty65 fo65_1 ty46 rfl rfl ?_)
                  refine g_step_yes (j := 7) (t := 80) rfl rfl rfl rfl (s_fieldAddr ty46 fo46_1 ty3 rfl rfl ?_)
                  refine g_step_yes (j := 7) (t := 80) rfl rfl rfl rfl (s_val (v_loadl ty3 rfl rfl rfl rfl) rfl rfl ?_)
                  refine g_step_yes (j := 7) (t := 80) rfl rfl rfl rfl (s_val (v_geq rfl rfl) rfl rfl ?_)
                  refine g_step rfl (s_val (v_pick_f rfl rfl) rfl rfl ?_)
                  refine g_nil ?_
                  refine g_next hK21 ?_
                  first | refine g_keep [85] [2, 3, 4, 6, 10] [2, 3, 4, 6, 10] (keep_cons rfl keep_nil) (lkeep_cons rfl (lkeep_cons rfl (lkeep_cons rfl (lkeep_cons rfl (lkeep_cons rfl lkeep_nil))))) (keep_cons rfl (keep_cons rfl (keep_cons rfl (keep_cons rfl (keep_cons rfl keep_nil))))) rfl ?_ | refine g_keep [85] [2, 3, 4, 6, 10] [2, 3, 4, 6, 10] rfl rfl rfl rfl ?_
                  refine g_cond rfl (fun hc85 => ?_) (fun hc85 => ?_)
                  · try simp only [decide_eq_true_eq, decide_eq_false_iff_not, Bool.not_eq_true', Bool.not_eq_false', Bool.not_eq_eq_eq_not, Bool.not_true, Bool.not_false, Bool.and_eq_true, Bool.or_eq_true, Bool.or_eq_false_iff, beq_iff_eq, beq_eq_false_iff_ne, ne_eq, Int.not_lt, Int.not_le, Decidable.not_not] at hc85
                    refine g_seq (fun K24 hK24 => ?_)
                    refine g_region ?_
                    have hR : doL me room l a = (l, 0) := by first | (rw [doL, if_pos hk0, joinT, if_neg hv, if_pos hid, refT, ho]; exact if_pos (by omega)) | (exfalso; simp_all; done) | (exfalso; simp_all; omega)
                    refine g_step rfl (s_val (by first | exact v_loadl_all ty61 rfl rfl rfl rfl rfl | exact v_loadl_part (cs := [_, _, _]) ty61 rfl rfl rfl rfl rfl rfl) rfl rfl ?_)
                    refine g_step rfl (s_store_all ty61 rfl rfl rfl rfl rfl rfl ?_)
                    refine g_step rfl (s_val (v_assign rfl) rfl rfl ?_)
                    refine g_nil ?_
                    refine g_next hK24 ?_
                    refine g_ret ?_
                    refine g_then_ret ?_
                    refine g_then_ret ?_
                    refine g_then_ret ?_
                    refine g_end2 (.inl rfl) Try.results30 (.agg ty61 rfl rfl rfl rfl rfl) (.tmp rfl) [] (ASub.refl _) (AHeap.sub_refl _) (fun p hp => by cases hp) ⟨rfl, ?_⟩
                    first | (rw [hR]; rfl; done) | (rw [hR]; rfl; rfl)
                  · try simp only [decide_eq_true_eq, decide_eq_false_iff_not, Bool.not_eq_true', Bool.not_eq_false', Bool.not_eq_eq_eq_not, Bool.not_true, Bool.not_false, Bool.and_eq_true, Bool.or_eq_true, Bool.or_eq_false_iff, beq_iff_eq, beq_eq_false_iff_ne, ne_eq, Int.not_lt, Int.not_le, Decidable.not_not] at hc85
                    refine g_skip ?_
                    refine g_next hK20 ?_
                    refine g_seq (fun K25 hK25 => ?_)
                    refine g_region ?_
                    have hR : doL me room l a = (rput l (wthInc o (a.rc.inc + 1)), 4) := by first | (rw [doL, if_pos hk0, joinT, if_neg hv, if_pos hid, refT, ho]; exact if_neg (by omega)) | (exfalso; simp_all; done) | (exfalso; simp_all; omega)
                    refine g_step rfl (s_fieldAddr ty65 fo65_1 ty46 rfl rfl ?_)
                    refine g_step rfl (s_fieldAddr ty46 fo46_1 ty3 rfl rfl ?_)
                    refine g_step rfl (s_val (v_loadl ty3 rfl rfl rfl rfl) rfl rfl ?_)
                    refine g_step rfl (s_val (v_add rfl rfl (by omega)) rfl rfl ?_)
                    refine g_step rfl (s_fieldAddr ty46 fo46_1 ty3 rfl rfl ?_)
                    refine g_step rfl (s_store (new := (encR (wthInc o (a.rc.inc + 1)))) ty3 rfl rfl rfl rfl rfl rfl rfl ?_)
                    refine g_nil ?_
                    refine g_next hK25 ?_
                    refine g_seq (fun K26 hK26 => ?_)
                    refine g_region ?_
                    refine g_step rfl (s_fieldAddr ty61 fo61_2 ty22 rfl rfl ?_)
                    refine g_step rfl (s_val (v_loadl ty22 rfl rfl rfl rfl) rfl rfl ?_)
                    refine g_step rfl (s_val (by first | exact v_loadl_all ty46 rfl rfl rfl rfl rfl | exact v_loadl_part (cs := [_, _, _, _, _, _, _]) ty46 rfl rfl rfl rfl rfl rfl) rfl rfl ?_)
                    refine g_step rfl (s_callp rfl rfl rfl (put_ok l (wthInc o (a.rc.inc + 1)) _ _ rfl (by omega) hs (hso)) ?_)
                    rintro _ rfl
                    refine g_step rfl (s_fieldAddr ty61 fo61_2 ty22 rfl rfl ?_)
                    refine g_step rfl (s_store (new := (mdl me room (rput l (wthInc o (a.rc.inc + 1))))) ty22 rfl rfl rfl rfl rfl rfl rfl ?_)
                    refine g_nil ?_
                    refine g_next hK26 ?_
                    refine g_seq (fun K27 hK27 => ?_)
                    refine g_region ?_
                    refine g_step rfl (s_val (by first | exact v_loadl_all ty61 rfl rfl rfl rfl rfl | exact v_loadl_part (cs := [_, _, _]) ty61 rfl rfl rfl rfl rfl rfl) rfl rfl ?_)
                    refine g_step rfl (s_store_all ty61 rfl rfl rfl rfl rfl rfl ?_)
                    refine g_step rfl (s_val (v_assign rfl) rfl rfl ?_)
                    refine g_nil ?_
                    refine g_next hK27 ?_
                    refine g_ret ?_
                    refine g_then_ret ?_
                    refine g_then_ret ?_
                    refine g_end2 (.inl rfl) Try.results30 (.agg ty61 rfl rfl rfl rfl rfl) (.tmp rfl) [] (ASub.refl _) (AHeap.sub_refl _) (fun p hp => by cases hp) ⟨rfl, ?_⟩
                    first | (rw [hR]; rfl; done) | (rw [hR]; rfl; rfl)
            · try simp only [decide_eq_true_eq, decide_eq_false_iff_not, Bool.not_eq_true', Bool.not_eq_false', Bool.not_eq_eq_eq_not, Bool.not_true, Bool.not_false, Bool.and_eq_true, Bool.or_eq_true, Bool.or_eq_false_iff, beq_iff_eq, beq_eq_false_iff_ne, ne_eq, Int.not_lt, Int.not_le, Decidable.not_not] at hg66
              refine g_step_no (j := 13) (t := 66) rfl rfl rfl rfl rfl rfl rfl ?_
              refine g_step_no (j := 13) (t := 66) rfl rfl rfl rfl rfl rfl rfl ?_
              refine g_step_no (j := 13) (t := 66) rfl rfl rfl rfl rfl rfl rfl ?_
              refine g_step_no (j := 13) (t := 66) rfl rfl rfl rfl rfl rfl rfl ?_
              refine g_step_yes (j := 6) (t := 59) rfl rfl rfl rfl (s_val (v_pick_f rfl rfl) rfl rfl ?_)
              refine g_step rfl (s_val (v_pick_f rfl rfl) rfl rfl ?_)
              refine g_step rfl (s_val (v_assign rfl) rfl rfl ?_)
              refine g_nil ?_
              refine g_next hK11 ?_
              refine g_seq (fun K28 hK28 => ?_)
              refine g_seq (fun K29 hK29 => ?_)
              refine g_region ?_
              refine g_step rfl (s_val (v_move rfl) rfl rfl ?_)
              refine g_step rfl (s_val (v_not rfl) rfl rfl ?_)
              refine g_step rfl (s_val (v_move rfl) rfl rfl ?_)
              refine g_split 75 rfl (fun hg75 => ?_) (fun hg75 => ?_)
              · try simp only [decide_eq_true_eq, decide_eq_false_iff_not, Bool.not_eq_true', Bool.not_eq_false', Bool.not_eq_eq_eq_not, Bool.not_true, Bool.not_false, Bool.and_eq_true, Bool.or_eq_true, Bool.or_eq_false_iff, beq_iff_eq, beq_eq_false_iff_ne, ne_eq, Int.not_lt, Int.not_le, Decidable.not_not] at hg75
                refine g_step_no (j := 2) (t := 75) rfl rfl rfl rfl rfl rfl rfl ?_
                refine g_step_no (j := 2) (t := 75) rfl rfl rfl rfl rfl rfl rfl ?_
                refine g_step_no (j := 2) (t := 75) rfl rfl rfl rfl rfl rfl rfl ?_
                refine g_step rfl (s_val (v_pick_t rfl rfl) rfl rfl ?_)
                refine g_step rfl (s_val (v_move rfl) rfl rfl ?_)
                refine g_step_no (j := 7) (t := 80) rfl rfl rfl rfl rfl rfl rfl ?_
                refine g_step_no (j := 7) (t := 80) rfl rfl rfl rfl rfl rfl rfl ?_
                refine g_step_no (j := 7) (t := 80) rfl rfl rfl rfl rfl rfl rfl ?_
                refine g_step_no (j := 7) (t := 80) rfl rfl rfl rfl rfl rfl rfl ?_
                refine g_step rfl (s_val (v_pick_t rfl rfl) rfl rfl ?_)
                refine g_nil ?_
                refine g_next hK29 ?_
                first | refine g_keep [85] [2, 3, 4, 6, 10] [2, 3, 4, 6, 10] (keep_cons rfl keep_nil) (lkeep_cons rfl (lkeep_cons rfl (lkeep_cons rfl (lkeep_cons rfl (lkeep_cons rfl lkeep_nil))))) (keep_cons rfl (keep_cons rfl (keep_cons rfl (keep_cons rfl (keep_cons rfl keep_nil))))) rfl ?_ | refine g_keep [85] [2, 3, 4, 6, 10] [2, 3, 4, 6, 10] rfl rfl rfl rfl ?_
                refine g_cond rfl (fun _ => ?_) (fun h => by cases h)
                refine g_seq (fun K30 hK30 => ?_)
                refine g_region ?_
                have hR : doL me room l a = (l, 0) := by first | (rw [doL, if_pos hk0, joinT, if_neg hv, if_pos hid, refT, ho]; exact if_pos (by omega)) | (exfalso; simp_all; done) | (exfalso; simp_all; omega)
                refine g_step rfl (s_val (by first | exact v_loadl_all ty61 rfl rfl rfl rfl rfl | exact v_loadl_part (cs := [_, _, _]) ty61 rfl rfl rfl rfl rfl rfl) rfl rfl ?_)
                refine g_step rfl (s_store_all ty61 rfl rfl rfl rfl rfl rfl ?_)
                refine g_step rfl (s_val (v_assign rfl) rfl rfl ?_)
                refine g_nil ?_
                refine g_next hK30 ?_
                refine g_ret ?_
                refine g_then_ret ?_
                refine g_then_ret ?_
                refine g_then_ret ?_
                refine g_end2 (.inl rfl) Try.results30 (.agg ty61 rfl rfl rfl rfl rfl) (.tmp rfl) [] (ASub.refl _) (AHeap.sub_refl _) (fun p hp => by cases hp) ⟨rfl, ?_⟩
                first | (rw [hR]; rfl; done) | (rw [hR]; rfl; rfl)
              · try simp only [decide_eq_true_eq, decide_eq_false_iff_not, Bool.not_eq_true', Bool.not_eq_false', Bool.not_eq_eq_eq_not, Bool.not_true, Bool.not_false, Bool.and_eq_true, Bool.or_eq_true, Bool.or_eq_false_iff, beq_iff_eq, beq_eq_false_iff_ne, ne_eq, Int.not_lt, Int.not_le, Decidable.not_not] at hg75
                refine g_step_yes (j := 2) (t := 75) rfl rfl rfl rfl (s_fieldAddr ty46 fo46_2 ty3 rfl rfl ?_)
                refine g_step_yes (j := 2) (t := 75) rfl rfl rfl rfl (s_val (v_loadl ty3 rfl rfl rfl rfl) rfl rfl ?_)
                refine g_step_yes (j := 2) (t := 75) rfl rfl rfl rfl (s_val (v_eql rfl rfl) rfl rfl ?_)
                refine g_step rfl (s_val (v_pick_f rfl rfl) rfl rfl ?_)
                refine g_step rfl (s_val (v_move rfl) rfl rfl ?_)
                refine g_split 80 rfl (fun hg80 => ?_) (fun hg80 => ?_)
                · try simp only [decide_eq_true_eq, decide_eq_false_iff_not, Bool.not_eq_true', Bool.not_eq_false', Bool.not_eq_eq_eq_not, Bool.not_true, Bool.not_false, Bool.and_eq_true, Bool.or_eq_true, Bool.or_eq_false_iff, beq_iff_eq, beq_eq_false_iff_ne, ne_eq, Int.not_lt, Int.not_le, Decidable.not_not] at hg80
                  refine g_step_no (j := 7) (t := 80) rfl rfl rfl rfl rfl rfl rfl ?_
                  refine g_step_no (j := 7) (t := 80) rfl rfl rfl rfl rfl rfl rfl ?_
                  refine g_step_no (j := 7) (t := 80) rfl rfl rfl rfl rfl rfl rfl ?_
                  refine g_step_no (j := 7) (t := 80) rfl rfl rfl rfl rfl rfl rfl ?_
                  refine g_step rfl (s_val (v_pick_t rfl rfl) rfl rfl ?_)
                  refine g_nil ?_
                  refine g_next hK29 ?_
                  first | refine g_keep [85] [2, 3, 4, 6, 10] [2, 3, 4, 6, 10] (keep_cons rfl keep_nil) (lkeep_cons rfl (lkeep_cons rfl (lkeep_cons rfl (lkeep_cons rfl (lkeep_cons rfl lkeep_nil))))) (keep_cons rfl (keep_cons rfl (keep_cons rfl (keep_cons rfl (keep_cons rfl keep_nil))))) rfl ?_ | refine g_keep [85] [2, 3, 4, 6, 10] [2, 3, 4, 6, 10] rfl rfl rfl rfl ?_
                  refine g_cond rfl (fun _ => ?_) (fun h => by cases h)
                  refine g_seq (fun K31 hK31 => ?_)
                  refine g_region ?_
                  have hR : doL me room l a = (l, 0) := by first | (rw [doL, if_pos hk0, joinT, if_neg hv, if_pos hid, refT, ho]; exact if_pos (by omega)) | (exfalso; simp_all; done) | (exfalso; simp_all; omega)
                  refine g_step rfl (s_val (by first | exact v_loadl_all ty61 rfl rfl rfl rfl rfl | exact v_loadl_part (cs := [_, _, _]) ty61 rfl rfl rfl rfl rfl rfl) rfl rfl ?_)
                  refine g_step rfl (s_store_all ty61 rfl rfl rfl rfl rfl rfl ?_)
                  refine g_step rfl (s_val (v_assign rfl) rfl rfl ?_)
                  refine g_nil ?_
                  refine g_next hK31 ?_
                  refine g_ret ?_
                  refine g_then_ret ?_
                  refine g_then_ret ?_
                  refine g_then_ret ?_
                  refine g_end2 (.inl rfl) Try.results30 (.agg ty61 rfl rfl rfl rfl rfl) (.tmp rfl) [] (ASub.refl _) (AHeap.sub_refl _) (fun p hp => by cases hp) ⟨rfl, ?_⟩
                  first | (rw [hR]; rfl; done) | (rw [hR]; rfl; rfl)
                · try simp only [decide_eq_true_eq, decide_eq_false_iff_not, Bool.not_eq_true', Bool.not_eq_false', Bool.not_eq_eq_eq_not, Bool.not_true, Bool.not_false, Bool.and_eq_true, Bool.or_eq_true, Bool.or_eq_false_iff, beq_iff_eq, beq_eq_false_iff_ne, ne_eq, Int.not_lt, Int.not_le, Decidable.not_not] at hg80
                  refine g_step_yes (j := 7) (t := 80) rfl rfl rfl rfl (s_fieldAddr ty65 fo65_1 ty46 rfl rfl ?_)
                  refine g_step_yes (j := 7) (t := 80) rfl rfl rfl rfl (s_fieldAddr ty46 fo46_1 ty3 rfl rfl ?_)
                  refine g_step_yes (j := 7) (t := 80) rfl rfl rfl rfl (s_val (v_loadl ty3 rfl rfl rfl rfl) rfl rfl ?_)
                  refine g_step_yes (j := 7) (t := 80) rfl rfl rfl rfl (s_val (v_geq rfl rfl) rfl rfl ?_)
                  refine g_step rfl (s_val (v_pick_f rfl rfl) rfl rfl ?_)
                  refine g_nil ?_
                  refine g_next hK29 ?_
                  first | refine g_keep [85] [2, 3, 4, 6, 10] [2, 3, 4, 6, 10] (keep_cons rfl keep_nil) (lkeep_cons rfl (lkeep_cons rfl (lkeep_cons rfl (lkeep_cons rfl (lkeep_cons rfl lkeep_nil))))) (keep_cons rfl (keep_cons rfl (keep_cons rfl (keep_cons rfl (keep_cons rfl keep_nil))))) rfl ?_ | refine g_keep [85] [2, 3, 4, 6, 10] [2, 3, 4, 6, 10] rfl rfl rfl rfl ?_
                  refine g_cond rfl (fun hc85 => ?_) (fun hc85 => ?_)
                  · try simp only [decide_eq_true_eq, decide_eq_false_iff_not, Bool.not_eq_true', Bool.not_eq_false', Bool.not_eq_eq_eq_not, Bool.not_true, Bool.not_false, Bool.and_eq_true, Bool.or_eq_true, Bool.or_eq_false_iff, beq_iff_eq, beq_eq_false_iff_ne, ne_eq, Int.not_lt, Int.not_le, Decidable.not_not] at hc85
                    refine g_seq (fun K32 hK32 => ?_)
                    refine g_region ?_
                    have hR : doL me room l a = (l, 0) := by first | (rw [doL, if_pos hk0, joinT, if_neg hv, if_pos hid, refT, ho]; exact if_pos (by omega)) | (exfalso; simp_all; done) | (exfalso; simp_all; omega)
                    refine g_step rfl (s_val (by first | exact v_loadl_all ty61 rfl rfl rfl rfl rfl | exact v_loadl_part (cs := [_, _, _]) ty61 rfl rfl rfl rfl rfl rfl) rfl rfl ?_)
                    refine g_step rfl (s_store_all ty61 rfl rfl rfl rfl rfl rfl ?_)
                    refine g_step rfl (s_val (v_assign rfl) rfl rfl ?_)
                    refine g_nil ?_
                    refine g_next hK32 ?_
                    refine g_ret ?_
                    refine g_then_ret ?_
                    refine g_then_ret ?_
                    refine g_then_ret ?_
                    refine g_end2 (.inl rfl) Try.results30 (.agg ty61 rfl rfl rfl rfl rfl) (.tmp rfl) [] (ASub.refl _) (AHeap.sub_refl _) (fun p hp => by cases hp) ⟨rfl, ?_⟩
                    first | (rw [hR]; rfl; done) | (rw [hR]; rfl; rfl)
                  · try simp only [decide_eq_true_eq, decide_eq_false_iff_not, Bool.not_eq_true', Bool.not_eq_false', Bool.not_eq_eq_eq_not, Bool.not_true, Bool.not_false, Bool.and_eq_true, Bool.or_eq_true, Bool.or_eq_false_iff, beq_iff_eq, beq_eq_false_iff_ne, ne_eq, Int.not_lt, Int.not_le, Decidable.not_not] at hc85
                    refine g_skip ?_
                    refine g_next hK28 ?_
                    refine g_seq (fun K33 hK33 => ?_)
                    refine g_region ?_
                    have hR : doL me room l a = (rput l (wthInc o (a.rc.inc + 1)), 4) := by first | (rw [doL, if_pos hk0, joinT, if_neg hv, if_pos hid, refT, ho]; exact if_neg (by omega)) | (exfalso; simp_all; done) | (exfalso; simp_all; omega)
                    refine g_step rfl (s_fieldAddr ty65 fo65_1 ty46 rfl rfl ?_)
                    refine g_step rfl (s_fieldAddr ty46 fo46_1 ty3 rfl rfl ?_)
                    refine g_step rfl (s_val (v_loadl ty3 rfl rfl rfl rfl) rfl rfl ?_)
                    refine g_step rfl (s_val (v_add rfl rfl (by omega)) rfl rfl ?_)
                    refine g_step rfl (s_fieldAddr ty46 fo46_1 ty3 rfl rfl ?_)
                    refine g_step rfl (s_store (new := (encR (wthInc o (a.rc.inc + 1)))) ty3 rfl rfl rfl rfl rfl rfl rfl ?_)
                    refine g_nil ?_
                    refine g_next hK33 ?_
                    refine g_seq (fun K34 hK34 => ?_)
                    refine g_region ?_
                    refine g_step rfl (s_fieldAddr ty61 fo61_2 ty22 rfl rfl ?_)
                    refine g_step rfl (s_val (v_loadl ty22 rfl rfl rfl rfl) rfl rfl ?_)
                    refine g_step rfl (s_val (by first | exact v_loadl_all ty46 rfl rfl rfl rfl rfl | exact v_loadl_part (cs := [_, _, _, _, _, _, _]) ty46 rfl rfl rfl rfl rfl rfl) rfl rfl ?_)
                    refine g_step rfl (s_callp rfl rfl rfl (put_ok l (wthInc o (a.rc.inc + 1)) _ _ rfl (by omega) hs (hso)) ?_)
                    rintro _ rfl
                    refine g_step rfl (s_fieldAddr ty61 fo61_2 ty22 rfl rfl ?_)
                    refine g_step rfl (s_store (new := (mdl me room (rput l (wthInc o (a.rc.inc + 1))))) ty22 rfl rfl rfl rfl rfl rfl rfl ?_)
                    refine g_nil ?_
                    refine g_next hK34 ?_
                    refine g_seq (fun K35 hK35 => ?_)
                    refine g_region ?_
                    refine g_step rfl (s_val (by first | exact v_loadl_all ty61 rfl rfl rfl rfl rfl | exact v_loadl_part (cs := [_, _, _]) ty61 rfl rfl rfl rfl rfl rfl) rfl rfl ?_)
                    refine g_step rfl (s_store_all ty61 rfl rfl rfl rfl rfl rfl ?_)
                    refine g_step rfl (s_val (v_assign rfl) rfl rfl ?_)
                    refine g_nil ?_
                    refine g_next hK35 ?_
                    refine g_ret ?_
                    refine g_then_ret ?_
                    refine g_then_ret ?_
                    refine g_end2 (.inl rfl) Try.results30 (.agg ty61 rfl rfl rfl rfl rfl) (.tmp rfl) [] (ASub.refl _) (AHeap.sub_refl _) (fun p hp => by cases hp) ⟨rfl, ?_⟩
                    first | (rw [hR]; rfl; done) | (rw [hR]; rfl; rfl)
        · try simp only [decide_eq_true_eq, decide_eq_false_iff_not, Bool.not_eq_true', Bool.not_eq_false', Bool.not_eq_eq_eq_not, Bool.not_true, Bool.not_false, Bool.and_eq_true, Bool.or_eq_true, Bool.or_eq_false_iff, beq_iff_eq, beq_eq_false_iff_ne, ne_eq, Int.not_lt, Int.not_le, Decidable.not_not] at hc52
          have hid : ¬ (a.rc.id = me) := by omega
          refine g_skip ?_
          refine g_next hK9 ?_
          refine g_seq (fun K36 hK36 => ?_)
          refine g_seq (fun K37 hK37 => ?_)
          refine g_region ?_
          refine g_step rfl (s_val (v_move rfl) rfl rfl ?_)
          refine g_step rfl (s_val (v_not rfl) rfl rfl ?_)
          refine g_nil ?_
          refine g_next hK37 ?_
          refine g_cond rfl (fun hc99 => ?_) (fun hc99 => ?_)
          · try simp only [decide_eq_true_eq, decide_eq_false_iff_not, Bool.not_eq_true', Bool.not_eq_false', Bool.not_eq_eq_eq_not, Bool.not_true, Bool.not_false, Bool.and_eq_true, Bool.or_eq_true, Bool.or_eq_false_iff, beq_iff_eq, beq_eq_false_iff_ne, ne_eq, Int.not_lt, Int.not_le, Decidable.not_not] at hc99
            have hno := rfind_no (l := l) (id := a.rc.id) (by simpa using hc99)
            refine g_seq (fun K38 hK38 => ?_)
            refine g_seq (fun K39 hK39 => ?_)
            refine g_region ?_
            refine g_step rfl (s_fieldAddr ty61 fo61_2 ty22 rfl rfl ?_)
            refine g_step rfl (s_val (v_loadl ty22 rfl rfl rfl rfl) rfl rfl ?_)
            refine g_step rfl (s_val (v_len ty22 rfl (by first | rfl | assumption) (by first | exact List.length_map .. | rfl)) rfl rfl ?_)
            refine g_step rfl (s_fieldAddr ty61 fo61_1 ty3 rfl rfl ?_)
            refine g_step rfl (s_val (v_loadl ty3 rfl rfl rfl rfl) rfl rfl ?_)
            refine g_step rfl (s_val (v_geq rfl rfl) rfl rfl ?_)
            refine g_nil ?_
            refine g_next hK39 ?_
            refine g_cond rfl (fun hc105 => ?_) (fun hc105 => ?_)
            · try simp only [decide_eq_true_eq, decide_eq_false_iff_not, Bool.not_eq_true', Bool.not_eq_false', Bool.not_eq_eq_eq_not, Bool.not_true, Bool.not_false, Bool.and_eq_true, Bool.or_eq_true, Bool.or_eq_false_iff, beq_iff_eq, beq_eq_false_iff_ne, ne_eq, Int.not_lt, Int.not_le, Decidable.not_not] at hc105
              refine g_seq (fun K40 hK40 => ?_)
              refine g_region ?_
              have hR : doL me room l a = (l, 3) := by rw [doL, if_pos hk0, joinT, if_neg hv, if_neg hid, hno]; exact if_pos (by omega)
              refine g_step rfl (s_val (by first | exact v_loadl_all ty61 rfl rfl rfl rfl rfl | exact v_loadl_part (cs := [_, _, _]) ty61 rfl rfl rfl rfl rfl rfl) rfl rfl ?_)
              refine g_step rfl (s_store_all ty61 rfl rfl rfl rfl rfl rfl ?_)
              refine g_step rfl (s_val (v_assign rfl) rfl rfl ?_)
              refine g_nil ?_
              refine g_next hK40 ?_
              refine g_ret ?_
              refine g_then_ret ?_
              refine g_then_ret ?_
              refine g_then_ret ?_
              refine g_end2 (.inl rfl) Try.results30 (.agg ty61 rfl rfl rfl rfl rfl) (.tmp rfl) [] (ASub.refl _) (AHeap.sub_refl _) (fun p hp => by cases hp) ⟨rfl, ?_⟩
              first | (rw [hR]; rfl; done) | (rw [hR]; rfl; rfl)
            · try simp only [decide_eq_true_eq, decide_eq_false_iff_not, Bool.not_eq_true', Bool.not_eq_false', Bool.not_eq_eq_eq_not, Bool.not_true, Bool.not_false, Bool.and_eq_true, Bool.or_eq_true, Bool.or_eq_false_iff, beq_iff_eq, beq_eq_false_iff_ne, ne_eq, Int.not_lt, Int.not_le, Decidable.not_not] at hc105
              refine g_skip ?_
              refine g_next hK38 ?_
              refine g_seq (fun K41 hK41 => ?_)
              refine g_region ?_
              have hR : doL me room l a = (rput l a.rc, 1) := by rw [doL, if_pos hk0, joinT, if_neg hv, if_neg hid, hno]; exact if_neg (by omega)
              refine g_step rfl (s_fieldAddr ty61 fo61_2 ty22 rfl rfl ?_)
              refine g_step rfl (s_val (v_loadl ty22 rfl rfl rfl rfl) rfl rfl ?_)
              refine g_step rfl (s_fieldAddr ty65 fo65_1 ty46 rfl rfl ?_)
              refine g_step rfl (s_val (v_loadl_part (cs := [_, _, _, _, _, _, _]) ty46 rfl rfl rfl rfl rfl rfl) rfl rfl ?_)
              refine g_step rfl (s_callp rfl rfl rfl (put_ok l a.rc _ _ rfl (by omega) hs (hb)) ?_)
              rintro _ rfl
              refine g_step rfl (s_fieldAddr ty61 fo61_2 ty22 rfl rfl ?_)
              refine g_step rfl (s_store (new := (mdl me room (rput l a.rc))) ty22 rfl rfl rfl rfl rfl rfl rfl ?_)
              refine g_nil ?_
              refine g_next hK41 ?_
              refine g_seq (fun K42 hK42 => ?_)
              refine g_region ?_
              refine g_step rfl (s_val (by first | exact v_loadl_all ty61 rfl rfl rfl rfl rfl | exact v_loadl_part (cs := [_, _, _]) ty61 rfl rfl rfl rfl rfl rfl) rfl rfl ?_)
              refine g_step rfl (s_store_all ty61 rfl rfl rfl rfl rfl rfl ?_)
              refine g_step rfl (s_val (v_assign rfl) rfl rfl ?_)
              refine g_nil ?_
              refine g_next hK42 ?_
              refine g_ret ?_
              refine g_then_ret ?_
              refine g_then_ret ?_
              refine g_end2 (.inl rfl) Try.results30 (.agg ty61 rfl rfl rfl rfl rfl) (.tmp rfl) [] (ASub.refl _) (AHeap.sub_refl _) (fun p hp => by cases hp) ⟨rfl, ?_⟩
              first | (rw [hR]; rfl; done) | (rw [hR]; rfl; rfl)
          · try simp only [decide_eq_true_eq, decide_eq_false_iff_not, Bool.not_eq_true', Bool.not_eq_false', Bool.not_eq_eq_eq_not, Bool.not_true, Bool.not_false, Bool.and_eq_true, Bool.or_eq_true, Bool.or_eq_false_iff, beq_iff_eq, beq_eq_false_iff_ne, ne_eq, Int.not_lt, Int.not_le, Decidable.not_not] at hc99
            have hy := rfind_yes (l := l) (id := a.rc.id) (by simpa using hc99)
            have hyid := fnd_id hy
            have hsj : Small (jn (rfind l a.rc.id).1 a.rc).bag := jn_small hsY hb
            refine g_skip ?_
            refine g_next hK36 ?_
            refine g_seq (fun K43 hK43 => ?_)
            refine g_region ?_
            refine g_step rfl (s_val (by first | exact v_loadl_all ty46 rfl rfl rfl rfl rfl | exact v_loadl_part (cs := [_, _, _, _, _, _, _]) ty46 rfl rfl rfl rfl rfl rfl) rfl rfl ?_)
            refine g_step rfl (s_fieldAddr ty65 fo65_1 ty46 rfl rfl ?_)
            refine g_step rfl (s_val (v_loadl_part (cs := [_, _, _, _, _, _, _]) ty46 rfl rfl rfl rfl rfl rfl) rfl rfl ?_)
            refine g_step rfl (s_callp rfl rfl rfl (join_ok (rfind l a.rc.id).1 a.rc _ hsY hb) ?_)
            rintro _ rfl
            rw [jnAll_same hyid]
            refine g_step rfl (s_val (v_move rfl) rfl rfl ?_)
            refine g_step rfl (s_val (v_extract rfl rfl) rfl rfl ?_)
            refine g_step rfl (s_val (v_extract rfl rfl) rfl rfl ?_)
            refine g_step rfl (s_alloc (av := (.agg [(.int .i64 0), (.int .i64 0), (.int .i64 0), (.int .i64 0), (.int .i64 0), (.bool false), .nil0])) ty46 rfl rfl rfl rfl ?_)
            refine g_step rfl (s_store_all ty46 rfl rfl rfl rfl rfl rfl ?_)
            refine g_step rfl (s_val (v_assign rfl) rfl rfl ?_)
            refine g_nil ?_
            refine g_next hK43 ?_
            refine g_seq (fun K44 hK44 => ?_)
            refine g_seq (fun K45 hK45 => ?_)
            refine g_region ?_
            refine g_step rfl (s_val (by first | exact v_loadl_all ty46 rfl rfl rfl rfl rfl | exact v_loadl_part (cs := [_, _, _, _, _, _, _]) ty46 rfl rfl rfl rfl rfl rfl) rfl rfl ?_)
            refine g_step rfl (s_val (by first | exact v_loadl_all ty46 rfl rfl rfl rfl rfl | exact v_loadl_part (cs := [_, _, _, _, _, _, _]) ty46 rfl rfl rfl rfl rfl rfl) rfl rfl ?_)
            refine g_step rfl (s_callp rfl rfl rfl (alike_ok (jn (rfind l a.rc.id).1 a.rc) (rfind l a.rc.id).1 _ hsj) ?_)
            rintro _ rfl
            refine g_nil ?_
            refine g_next hK45 ?_
            refine g_cond rfl (fun hc123 => ?_) (fun hc123 => ?_)
            · try simp only [decide_eq_true_eq, decide_eq_false_iff_not, Bool.not_eq_true', Bool.not_eq_false', Bool.not_eq_eq_eq_not, Bool.not_true, Bool.not_false, Bool.and_eq_true, Bool.or_eq_true, Bool.or_eq_false_iff, beq_iff_eq, beq_eq_false_iff_ne, ne_eq, Int.not_lt, Int.not_le, Decidable.not_not] at hc123
              refine g_seq (fun K46 hK46 => ?_)
              refine g_region ?_
              have hR : doL me room l a = (l, 0) := by rw [doL, if_pos hk0, joinT, if_neg hv, if_neg hid, hy]; exact if_pos (by simpa using hc123)
              refine g_step rfl (s_val (by first | exact v_loadl_all ty61 rfl rfl rfl rfl rfl | exact v_loadl_part (cs := [_, _, _]) ty61 rfl rfl rfl rfl rfl rfl) rfl rfl ?_)
              refine g_step rfl (s_store_all ty61 rfl rfl rfl rfl rfl rfl ?_)
              refine g_step rfl (s_val (v_assign rfl) rfl rfl ?_)
              refine g_nil ?_
              refine g_next hK46 ?_
              refine g_ret ?_
              refine g_then_ret ?_
              refine g_then_ret ?_
              refine g_end2 (.inl rfl) Try.results30 (.agg ty61 rfl rfl rfl rfl rfl) (.tmp rfl) [] (ASub.refl _) (AHeap.sub_refl _) (fun p hp => by cases hp) ⟨rfl, ?_⟩
              first | (rw [hR]; rfl; done) | (rw [hR]; rfl; rfl)
            · try simp only [decide_eq_true_eq, decide_eq_false_iff_not, Bool.not_eq_true', Bool.not_eq_false', Bool.not_eq_eq_eq_not, Bool.not_true, Bool.not_false, Bool.and_eq_true, Bool.or_eq_true, Bool.or_eq_false_iff, beq_iff_eq, beq_eq_false_iff_ne, ne_eq, Int.not_lt, Int.not_le, Decidable.not_not] at hc123
              refine g_skip ?_
              refine g_next hK44 ?_
              refine g_seq (fun K47 hK47 => ?_)
              refine g_region ?_
              have hR : doL me room l a = (rput l (jn (rfind l a.rc.id).1 a.rc), 2) := by rw [doL, if_pos hk0, joinT, if_neg hv, if_neg hid, hy]; exact if_neg (by simpa using hc123)
              refine g_step rfl (s_fieldAddr ty61 fo61_2 ty22 rfl rfl ?_)
              refine g_step rfl (s_val (v_loadl ty22 rfl rfl rfl rfl) rfl rfl ?_)
              refine g_step rfl (s_val (by first | exact v_loadl_all ty46 rfl rfl rfl rfl rfl | exact v_loadl_part (cs := [_, _, _, _, _, _, _]) ty46 rfl rfl rfl rfl rfl rfl) rfl rfl ?_)
              refine g_step rfl (s_callp rfl rfl rfl (put_ok l (jn (rfind l a.rc.id).1 a.rc) _ _ rfl (by omega) hs (hsj)) ?_)
              rintro _ rfl
              refine g_step rfl (s_fieldAddr ty61 fo61_2 ty22 rfl rfl ?_)
              refine g_step rfl (s_store (new := (mdl me room (rput l (jn (rfind l a.rc.id).1 a.rc)))) ty22 rfl rfl rfl rfl rfl rfl rfl ?_)
              refine g_nil ?_
              refine g_next hK47 ?_
              refine g_seq (fun K48 hK48 => ?_)
              refine g_region ?_
              refine g_step rfl (s_val (by first | exact v_loadl_all ty61 rfl rfl rfl rfl rfl | exact v_loadl_part (cs := [_, _, _]) ty61 rfl rfl rfl rfl rfl rfl) rfl rfl ?_)
              refine g_step rfl (s_store_all ty61 rfl rfl rfl rfl rfl rfl ?_)
              refine g_step rfl (s_val (v_assign rfl) rfl rfl ?_)
              refine g_nil ?_
              refine g_next hK48 ?_
              refine g_ret ?_
              refine g_then_ret ?_
              refine g_end2 (.inl rfl) Try.results30 (.agg ty61 rfl rfl rfl rfl rfl) (.tmp rfl) [] (ASub.refl _) (AHeap.sub_refl _) (fun p hp => by cases hp) ⟨rfl, ?_⟩
              first | (rw [hR]; rfl; done) | (rw [hR]; rfl; rfl)
    · try simp only [decide_eq_true_eq, decide_eq_false_iff_not, Bool.not_eq_true', Bool.not_eq_false', Bool.not_eq_eq_eq_not, Bool.not_true, Bool.not_false, Bool.and_eq_true, Bool.or_eq_true, Bool.or_eq_false_iff, beq_iff_eq, beq_eq_false_iff_ne, ne_eq, Int.not_lt, Int.not_le, Decidable.not_not] at hc41
      have hk0 : ¬ (a.k = 0) := by omega
      refine g_skip ?_
      refine g_next hK4 ?_
      refine g_seq (fun K49 hK49 => ?_)
      refine g_seq (fun K50 hK50 => ?_)
      refine g_region ?_
      refine g_step rfl (s_fieldAddr ty65 fo65_0 ty3 rfl rfl ?_)
      refine g_step rfl (s_val (v_loadl ty3 rfl rfl rfl rfl) rfl rfl ?_)
      refine g_step rfl (s_val (v_eql rfl rfl) rfl rfl ?_)
      refine g_step rfl (s_val (v_move rfl) rfl rfl ?_)
      refine g_split 134 rfl (fun hg134 => ?_) (fun hg134 => ?_)
      · try simp only [decide_eq_true_eq, decide_eq_false_iff_not, Bool.not_eq_true', Bool.not_eq_false', Bool.not_eq_eq_eq_not, Bool.not_true, Bool.not_false, Bool.and_eq_true, Bool.or_eq_true, Bool.or_eq_false_iff, beq_iff_eq, beq_eq_false_iff_ne, ne_eq, Int.not_lt, Int.not_le, Decidable.not_not] at hg134
        refine g_step_no (j := 3) (t := 134) rfl rfl rfl rfl rfl rfl rfl ?_
        refine g_step_no (j := 3) (t := 134) rfl rfl rfl rfl rfl rfl rfl ?_
        refine g_step_no (j := 3) (t := 134) rfl rfl rfl rfl rfl rfl rfl ?_
        refine g_step rfl (s_val (v_pick_t rfl rfl) rfl rfl ?_)
        refine g_nil ?_
        refine g_next hK50 ?_
        first | refine g_keep [9, 138] [2, 3, 4, 6, 8, 10] [2, 3, 4, 6, 8, 10] (keep_cons rfl (keep_cons rfl keep_nil)) (lkeep_cons rfl (lkeep_cons rfl (lkeep_cons rfl (lkeep_cons rfl (lkeep_cons rfl (lkeep_cons rfl lkeep_nil)))))) (keep_cons rfl (keep_cons rfl (keep_cons rfl (keep_cons rfl (keep_cons rfl (keep_cons rfl keep_nil)))))) rfl ?_ | refine g_keep [9, 138] [2, 3, 4, 6, 8, 10] [2, 3, 4, 6, 8, 10] rfl rfl rfl rfl ?_
        refine g_cond rfl (fun _ => ?_) (fun h => by cases h)
        refine g_seq (fun K51 hK51 => ?_)
        refine g_seq (fun K52 hK52 => ?_)
        refine g_region ?_
        have hk12 : a.k = 1 ∨ a.k = 2 := by omega
        refine g_step rfl (s_val (v_move rfl) rfl rfl ?_)
        refine g_step rfl (s_val (v_not rfl) rfl rfl ?_)
        refine g_step rfl (s_val (v_move rfl) rfl rfl ?_)
        refine g_split 141 rfl (fun hg141 => ?_) (fun hg141 => ?_)
        · try simp only [decide_eq_true_eq, decide_eq_false_iff_not, Bool.not_eq_true', Bool.not_eq_false', Bool.not_eq_eq_eq_not, Bool.not_true, Bool.not_false, Bool.and_eq_true, Bool.or_eq_true, Bool.or_eq_false_iff, beq_iff_eq, beq_eq_false_iff_ne, ne_eq, Int.not_lt, Int.not_le, Decidable.not_not] at hg141
          refine g_step_no (j := 2) (t := 141) rfl rfl rfl rfl rfl rfl rfl ?_
          refine g_step_no (j := 2) (t := 141) rfl rfl rfl rfl rfl rfl rfl ?_
          refine g_step_no (j := 2) (t := 141) rfl rfl rfl rfl rfl rfl rfl ?_
          refine g_step_no (j := 2) (t := 141) rfl rfl rfl rfl rfl rfl rfl ?_
          refine g_step_no (j := 2) (t := 141) rfl rfl rfl rfl rfl rfl rfl ?_
          refine g_step_no (j := 2) (t := 141) rfl rfl rfl rfl rfl rfl rfl ?_
          refine g_step rfl (s_val (v_pick_t rfl rfl) rfl rfl ?_)
          refine g_step rfl (s_val (v_move rfl) rfl rfl ?_)
          refine g_step_no (j := 10) (t := 149) rfl rfl rfl rfl rfl rfl rfl ?_
          refine g_step_no (j := 10) (t := 149) rfl rfl rfl rfl rfl rfl rfl ?_
          refine g_step_no (j := 10) (t := 149) rfl rfl rfl rfl rfl rfl rfl ?_
          refine g_step_no (j := 10) (t := 149) rfl rfl rfl rfl rfl rfl rfl ?_
          refine g_step_no (j := 10) (t := 149) rfl rfl rfl rfl rfl rfl rfl ?_
          refine g_step_no (j := 10) (t := 149) rfl rfl rfl rfl rfl rfl rfl ?_
          refine g_step rfl (s_val (v_pick_t rfl rfl) rfl rfl ?_)
          refine g_step rfl (s_val (v_move rfl) rfl rfl ?_)
          refine g_step_no (j := 18) (t := 157) rfl rfl rfl rfl rfl rfl rfl ?_
          refine g_step_no (j := 18) (t := 157) rfl rfl rfl rfl rfl rfl rfl ?_
          refine g_step_no (j := 18) (t := 157) rfl rfl rfl rfl rfl rfl rfl ?_
          refine g_step_no (j := 18) (t := 157) rfl rfl rfl rfl rfl rfl rfl ?_
          refine g_step_no (j := 18) (t := 157) rfl rfl rfl rfl rfl rfl rfl ?_
          refine g_step_no (j := 18) (t := 157) rfl rfl rfl rfl rfl rfl rfl ?_
          refine g_step rfl (s_val (v_pick_t rfl rfl) rfl rfl ?_)
          refine g_nil ?_
          refine g_next hK52 ?_
          first | refine g_keep [164] [2, 3, 4, 8, 10] [2, 3, 4, 8, 10] (keep_cons rfl keep_nil) (lkeep_cons rfl (lkeep_cons rfl (lkeep_cons rfl (lkeep_cons rfl (lkeep_cons rfl lkeep_nil))))) (keep_cons rfl (keep_cons rfl (keep_cons rfl (keep_cons rfl (keep_cons rfl keep_nil))))) rfl ?_ | refine g_keep [164] [2, 3, 4, 8, 10] [2, 3, 4, 8, 10] rfl rfl rfl rfl ?_
          refine g_cond rfl (fun _ => ?_) (fun h => by cases h)
          refine g_seq (fun K53 hK53 => ?_)
          refine g_region ?_
          have hM : moveT me l a.rc.id a.rc.inc (a.k - 1) a.k = (l, false) := by cases hq : (rfind l a.rc.id).2; simp [moveT, rfind_no hq]; (rw [moveT, rfind_yes hq]; first | exact if_pos (by omega) | (exfalso; simp_all; done))
          have hR : doL me room l a = (l, 0) := by rw [doL, if_neg hk0, if_pos hk12, hM]; rfl
          refine g_step rfl (s_val (by first | exact v_loadl_all ty61 rfl rfl rfl rfl rfl | exact v_loadl_part (cs := [_, _, _]) ty61 rfl rfl rfl rfl rfl rfl) rfl rfl ?_)
          refine g_step rfl (s_store_all ty61 rfl rfl rfl rfl rfl rfl ?_)
          refine g_step rfl (s_val (v_assign rfl) rfl rfl ?_)
          refine g_nil ?_
          refine g_next hK53 ?_
          refine g_ret ?_
          refine g_then_ret ?_
          refine g_then_ret ?_
          refine g_end2 (.inl rfl) Try.results30 (.agg ty61 rfl rfl rfl rfl rfl) (.tmp rfl) [] (ASub.refl _) (AHeap.sub_refl _) (fun p hp => by cases hp) ⟨rfl, ?_⟩
          first | (rw [hR]; rfl; done) | (rw [hR]; rfl; rfl)
        · try simp only [decide_eq_true_eq, decide_eq_false_iff_not, Bool.not_eq_true', Bool.not_eq_false', Bool.not_eq_eq_eq_not, Bool.not_true, Bool.not_false, Bool.and_eq_true, Bool.or_eq_true, Bool.or_eq_false_iff, beq_iff_eq, beq_eq_false_iff_ne, ne_eq, Int.not_lt, Int.not_le, Decidable.not_not] at hg141
          refine g_step_yes (j := 2) (t := 141) rfl rfl rfl rfl (s_fieldAddr ty65 fo65_1 ty46 rfl rfl ?_)
          refine g_step_yes (j := 2) (t := 141) rfl rfl rfl rfl (s_fieldAddr ty46 fo46_0 ty3 rfl rfl ?_)
          refine g_step_yes (j := 2) (t := 141) rfl rfl rfl rfl (s_val (v_loadl ty3 rfl rfl rfl rfl) rfl rfl ?_)
          refine g_step_yes (j := 2) (t := 141) rfl rfl rfl rfl (s_fieldAddr ty61 fo61_0 ty3 rfl rfl ?_)
          refine g_step_yes (j := 2) (t := 141) rfl rfl rfl rfl (s_val (v_loadl ty3 rfl rfl rfl rfl) rfl rfl ?_)
          refine g_step_yes (j := 2) (t := 141) rfl rfl rfl rfl (s_val (v_eql rfl rfl) rfl rfl ?_)
          refine g_step rfl (s_val (v_pick_f rfl rfl) rfl rfl ?_)
          refine g_step rfl (s_val (v_move rfl) rfl rfl ?_)
          refine g_split 149 rfl (fun hg149 => ?_) (fun hg149 => ?_)
          · try simp only [decide_eq_true_eq, decide_eq_false_iff_not, Bool.not_eq_true', Bool.not_eq_false', Bool.not_eq_eq_eq_not, Bool.not_true, Bool.not_false, Bool.and_eq_true, Bool.or_eq_true, Bool.or_eq_false_iff, beq_iff_eq, beq_eq_false_iff_ne, ne_eq, Int.not_lt, Int.not_le, Decidable.not_not] at hg149
            refine g_step_no (j := 10) (t := 149) rfl rfl rfl rfl rfl rfl rfl ?_
            refine g_step_no (j := 10) (t := 149) rfl rfl rfl rfl rfl rfl rfl ?_
            refine g_step_no (j := 10) (t := 149) rfl rfl rfl rfl rfl rfl rfl ?_
            refine g_step_no (j := 10) (t := 149) rfl rfl rfl rfl rfl rfl rfl ?_
            refine g_step_no (j := 10) (t := 149) rfl rfl rfl rfl rfl rfl rfl ?_
            refine g_step_no (j := 10) (t := 149) rfl rfl rfl rfl rfl rfl rfl ?_
            refine g_step rfl (s_val (v_pick_t rfl rfl) rfl rfl ?_)
            refine g_step rfl (s_val (v_move rfl) rfl rfl ?_)
            refine g_step_no (j := 18) (t := 157) rfl rfl rfl rfl rfl rfl rfl ?_
            refine g_step_no (j := 18) (t := 157) rfl rfl rfl rfl rfl rfl rfl ?_
            refine g_step_no (j := 18) (t := 157) rfl rfl rfl rfl rfl rfl rfl ?_
            refine g_step_no (j := 18) (t := 157) rfl rfl rfl rfl rfl rfl rfl ?_
            refine g_step_no (j := 18) (t := 157) rfl rfl rfl rfl rfl rfl rfl ?_
            refine g_step_no (j := 18) (t := 157) rfl rfl rfl rfl rfl rfl rfl ?_
            refine g_step rfl (s_val (v_pick_t rfl rfl) rfl rfl ?_)
            refine g_nil ?_
            refine g_next hK52 ?_
            first | refine g_keep [164] [2, 3, 4, 8, 10] [2, 3, 4, 8, 10] (keep_cons rfl keep_nil) (lkeep_cons rfl (lkeep_cons rfl (lkeep_cons rfl (lkeep_cons rfl (lkeep_cons rfl lkeep_nil))))) (keep_cons rfl (keep_cons rfl (keep_cons rfl (keep_cons rfl (keep_cons rfl keep_nil))))) rfl ?_ | refine g_keep [164] [2, 3, 4, 8, 10] [2, 3, 4, 8, 10] rfl rfl rfl rfl ?_
            refine g_cond rfl (fun _ => ?_) (fun h => by cases h)
            refine g_seq (fun K54 hK54 => ?_)
            refine g_region ?_
            have hM : moveT me l a.rc.id a.rc.inc (a.k - 1) a.k = (l, false) := by cases hq : (rfind l a.rc.id).2; simp [moveT, rfind_no hq]; (rw [moveT, rfind_yes hq]; first | exact if_pos (by omega) | (exfalso; simp_all; done))
            have hR : doL me room l a = (l, 0) := by rw [doL, if_neg hk0, if_pos hk12, hM]; rfl
            refine g_step rfl (s_val (by first | exact v_loadl_all ty61 rfl rfl rfl rfl rfl | exact v_loadl_part (cs := [_, _, _]) ty61 rfl rfl rfl rfl rfl rfl) rfl rfl ?_)
            refine g_step rfl (s_store_all ty61 rfl rfl rfl rfl rfl rfl ?_)
            refine g_step rfl (s_val (v_assign rfl) rfl rfl ?_)
            refine g_nil ?_
            refine g_next hK54 ?_
            refine g_ret ?_
            refine g_then_ret ?_
            refine g_then_ret ?_
            refine g_end2 (.inl rfl) Try.results30 (.agg ty61 rfl rfl rfl rfl rfl) (.tmp rfl) [] (ASub.refl _) (AHeap.sub_refl _) (fun p hp => by cases hp) ⟨rfl, ?_⟩
            first | (rw [hR]; rfl; done) | (rw [hR]; rfl; rfl)
          · try simp only [decide_eq_true_eq, decide_eq_false_iff_not, Bool.not_eq_true', Bool.not_eq_false', Bool.not_eq_eq_eq_not, Bool.not_true, Bool.not_false, Bool.and_eq_true, Bool.or_eq_true, Bool.or_eq_false_iff, beq_iff_eq, beq_eq_false_iff_ne, ne_eq, Int.not_lt, Int.not_le, Decidable.not_not] at hg149
            refine g_step_yes (j := 10) (t := 149) rfl rfl rfl rfl (s_fieldAddr ty46 fo46_1 ty3 rfl rfl ?_)
            refine g_step_yes (j := 10) (t := 149) rfl rfl rfl rfl (s_val (v_loadl ty3 rfl rfl rfl rfl) rfl rfl ?_)
            refine g_step_yes (j := 10) (t := 149) rfl rfl rfl rfl (s_fieldAddr ty65 fo65_1 ty46 rfl rfl ?_)
            refine g_step_yes (j := 10) (t := 149) rfl rfl rfl rfl (s_fieldAddr ty46 fo46_1 ty3 rfl rfl ?_)
            refine g_step_yes (j := 10) (t := 149) rfl rfl rfl rfl (s_val (v_loadl ty3 rfl rfl rfl rfl) rfl rfl ?_)
            refine g_step_yes (j := 10) (t := 149) rfl rfl rfl rfl (s_val (v_neq rfl rfl) rfl rfl ?_)
            refine g_step rfl (s_val (v_pick_f rfl rfl) rfl rfl ?_)
            refine g_step rfl (s_val (v_move rfl) rfl rfl ?_)
            refine g_split 157 rfl (fun hg157 => ?_) (fun hg157 => ?_)
            · try simp only [decide_eq_true_eq, decide_eq_false_iff_not, Bool.not_eq_true', Bool.not_eq_false', Bool.not_eq_eq_eq_not, Bool.not_true, Bool.not_false, Bool.and_eq_true, Bool.or_eq_true, Bool.or_eq_false_iff, beq_iff_eq, beq_eq_false_iff_ne, ne_eq, Int.not_lt, Int.not_le, Decidable.not_not] at hg157
              refine g_step_no (j := 18) (t := 157) rfl rfl rfl rfl rfl rfl rfl ?_
              refine g_step_no (j := 18) (t := 157) rfl rfl rfl rfl rfl rfl rfl ?_
              refine g_step_no (j := 18) (t := 157) rfl rfl rfl rfl rfl rfl rfl ?_
              refine g_step_no (j := 18) (t := 157) rfl rfl rfl rfl rfl rfl rfl ?_
              refine g_step_no (j := 18) (t := 157) rfl rfl rfl rfl rfl rfl rfl ?_
              refine g_step_no (j := 18) (t := 157) rfl rfl rfl rfl rfl rfl rfl ?_
              refine g_step rfl (s_val (v_pick_t rfl rfl) rfl rfl ?_)
              refine g_nil ?_
              refine g_next hK52 ?_
              refine g_cond rfl (fun _ => ?_) (fun h => by cases h)
              refine g_seq (fun K55 hK55 => ?_)
              refine g_region ?_
              have hM : moveT me l a.rc.id a.rc.inc (a.k - 1) a.k = (l, false) := by cases hq : (rfind l a.rc.id).2; simp [moveT, rfind_no hq]; (rw [moveT, rfind_yes hq]; first | exact if_pos (by omega) | (exfalso; simp_all; done))
              have hR : doL me room l a = (l, 0) := by rw [doL, if_neg hk0, if_pos hk12, hM]; rfl
              refine g_step rfl (s_val (by first | exact v_loadl_all ty61 rfl rfl rfl rfl rfl | exact v_loadl_part (cs := [_, _, _]) ty61 rfl rfl rfl rfl rfl rfl) rfl rfl ?_)
              refine g_step rfl (s_store_all ty61 rfl rfl rfl rfl rfl rfl ?_)
              refine g_step rfl (s_val (v_assign rfl) rfl rfl ?_)
              refine g_nil ?_
              refine g_next hK55 ?_
              refine g_ret ?_
              refine g_then_ret ?_
              refine g_then_ret ?_
              refine g_end2 (.inl rfl) Try.results30 (.agg ty61 rfl rfl rfl rfl rfl) (.tmp rfl) [] (ASub.refl _) (AHeap.sub_refl _) (fun p hp => by cases hp) ⟨rfl, ?_⟩
              first | (rw [hR]; rfl; done) | (rw [hR]; rfl; rfl)
            · try simp only [decide_eq_true_eq, decide_eq_false_iff_not, Bool.not_eq_true', Bool.not_eq_false', Bool.not_eq_eq_eq_not, Bool.not_true, Bool.not_false, Bool.and_eq_true, Bool.or_eq_true, Bool.or_eq_false_iff, beq_iff_eq, beq_eq_false_iff_ne, ne_eq, Int.not_lt, Int.not_le, Decidable.not_not] at hg157
              refine g_step_yes (j := 18) (t := 157) rfl rfl rfl rfl (s_fieldAddr ty46 fo46_2 ty3 rfl rfl ?_)
              refine g_step_yes (j := 18) (t := 157) rfl rfl rfl rfl (s_val (v_loadl ty3 rfl rfl rfl rfl) rfl rfl ?_)
              refine g_step_yes (j := 18) (t := 157) rfl rfl rfl rfl (s_fieldAddr ty65 fo65_0 ty3 rfl rfl ?_)
              refine g_step_yes (j := 18) (t := 157) rfl rfl rfl rfl (s_val (v_loadl ty3 rfl rfl rfl rfl) rfl rfl ?_)
              refine g_step_yes (j := 18) (t := 157) rfl rfl rfl rfl (s_val (v_sub_ rfl rfl (by omega)) rfl rfl ?_)
              refine g_step_yes (j := 18) (t := 157) rfl rfl rfl rfl (s_val (v_neq rfl rfl) rfl rfl ?_)
              refine g_step rfl (s_val (v_pick_f rfl rfl) rfl rfl ?_)
              refine g_nil ?_
              refine g_next hK52 ?_
              refine g_cond rfl (fun hc164 => ?_) (fun hc164 => ?_)
              · try simp only [decide_eq_true_eq, decide_eq_false_iff_not, Bool.not_eq_true', Bool.not_eq_false', Bool.not_eq_eq_eq_not, Bool.not_true, Bool.not_false, Bool.and_eq_true, Bool.or_eq_true, Bool.or_eq_false_iff, beq_iff_eq, beq_eq_false_iff_ne, ne_eq, Int.not_lt, Int.not_le, Decidable.not_not] at hc164
                refine g_seq (fun K56 hK56 => ?_)
                refine g_region ?_
                have hM : moveT me l a.rc.id a.rc.inc (a.k - 1) a.k = (l, false) := by cases hq : (rfind l a.rc.id).2; simp [moveT, rfind_no hq]; (rw [moveT, rfind_yes hq]; first | exact if_pos (by omega) | (exfalso; simp_all; done))
                have hR : doL me room l a = (l, 0) := by rw [doL, if_neg hk0, if_pos hk12, hM]; rfl
                refine g_step rfl (s_val (by first | exact v_loadl_all ty61 rfl rfl rfl rfl rfl | exact v_loadl_part (cs := [_, _, _]) ty61 rfl rfl rfl rfl rfl rfl) rfl rfl ?_)
                refine g_step rfl (s_store_all ty61 rfl rfl rfl rfl rfl rfl ?_)
                refine g_step rfl (s_val (v_assign rfl) rfl rfl ?_)
                refine g_nil ?_
                refine g_next hK56 ?_
                refine g_ret ?_
                refine g_then_ret ?_
                refine g_then_ret ?_
                refine g_end2 (.inl rfl) Try.results30 (.agg ty61 rfl rfl rfl rfl rfl) (.tmp rfl) [] (ASub.refl _) (AHeap.sub_refl _) (fun p hp => by cases hp) ⟨rfl, ?_⟩
                first | (rw [hR]; rfl; done) | (rw [hR]; rfl; rfl)
              · try simp only [decide_eq_true_eq, decide_eq_false_iff_not, Bool.not_eq_true', Bool.not_eq_false', Bool.not_eq_eq_eq_not, Bool.not_true, Bool.not_false, Bool.and_eq_true, Bool.or_eq_true, Bool.or_eq_false_iff, beq_iff_eq, beq_eq_false_iff_ne, ne_eq, Int.not_lt, Int.not_le, Decidable.not_not] at hc164
                refine g_skip ?_
                refine g_next hK51 ?_
                refine g_seq (fun K57 hK57 => ?_)
                refine g_region ?_
                have hy := rfind_yes (l := l) (id := a.rc.id) (by simp_all)
                have hM : moveT me l a.rc.id a.rc.inc (a.k - 1) a.k = (rput l (withSt (rfind l a.rc.id).1 a.k), true) := by rw [moveT, hy]; exact if_neg (by omega)
                have hR : doL me room l a = (rput l (withSt (rfind l a.rc.id).1 a.k), 1) := by rw [doL, if_neg hk0, if_pos hk12, hM]; rfl
                refine g_step rfl (s_fieldAddr ty65 fo65_0 ty3 rfl rfl ?_)
                refine g_step rfl (s_val (v_loadl ty3 rfl rfl rfl rfl) rfl rfl ?_)
                refine g_step rfl (s_fieldAddr ty46 fo46_2 ty3 rfl rfl ?_)
                refine g_step rfl (s_store (new := (encR (withSt (rfind l a.rc.id).1 a.k))) ty3 rfl rfl rfl rfl rfl rfl rfl ?_)
                refine g_nil ?_
                refine g_next hK57 ?_
                refine g_seq (fun K58 hK58 => ?_)
                refine g_region ?_
                refine g_step rfl (s_fieldAddr ty61 fo61_2 ty22 rfl rfl ?_)
                refine g_step rfl (s_val (v_loadl ty22 rfl rfl rfl rfl) rfl rfl ?_)
                refine g_step rfl (s_val (by first | exact v_loadl_all ty46 rfl rfl rfl rfl rfl | exact v_loadl_part (cs := [_, _, _, _, _, _, _]) ty46 rfl rfl rfl rfl rfl rfl) rfl rfl ?_)
                refine g_step rfl (s_callp rfl rfl rfl (put_ok l (withSt (rfind l a.rc.id).1 a.k) _ _ rfl (by omega) hs (hsY)) ?_)
                rintro _ rfl
                refine g_step rfl (s_fieldAddr ty61 fo61_2 ty22 rfl rfl ?_)
                refine g_step rfl (s_store (new := (mdl me room (rput l (withSt (rfind l a.rc.id).1 a.k)))) ty22 rfl rfl rfl rfl rfl rfl rfl ?_)
                refine g_nil ?_
                refine g_next hK58 ?_
                refine g_seq (fun K59 hK59 => ?_)
                refine g_region ?_
                refine g_step rfl (s_val (by first | exact v_loadl_all ty61 rfl rfl rfl rfl rfl | exact v_loadl_part (cs := [_, _, _]) ty61 rfl rfl rfl rfl rfl rfl) rfl rfl ?_)
                refine g_step rfl (s_store_all ty61 rfl rfl rfl rfl rfl rfl ?_)
                refine g_step rfl (s_val (v_assign rfl) rfl rfl ?_)
                refine g_nil ?_
                refine g_next hK59 ?_
                first | refine g_keep [5] [4] [4] (keep_cons rfl keep_nil) (lkeep_cons rfl lkeep_nil) (keep_cons rfl keep_nil) rfl ?_ | refine g_keep [5] [4] [4] rfl rfl rfl rfl ?_
                refine g_ret ?_
                refine g_then_ret ?_
                refine g_end2 (.inl rfl) Try.results30 (.agg ty61 rfl rfl rfl rfl rfl) (.tmp rfl) [] (ASub.refl _) (AHeap.sub_refl _) (fun p hp => by cases hp) ⟨rfl, ?_⟩
                first | (rw [hR]; rfl; done) | (rw [hR]; rfl; rfl)
      · try simp only [decide_eq_true_eq, decide_eq_false_iff_not, Bool.not_eq_true', Bool.not_eq_false', Bool.not_eq_eq_eq_not, Bool.not_true, Bool.not_false, Bool.and_eq_true, Bool.or_eq_true, Bool.or_eq_false_iff, beq_iff_eq, beq_eq_false_iff_ne, ne_eq, Int.not_lt, Int.not_le, Decidable.not_not] at hg134
        refine g_step_yes (j := 3) (t := 134) rfl rfl rfl rfl (s_fieldAddr ty65 fo65_0 ty3 rfl rfl ?_)
        refine g_step_yes (j := 3) (t := 134) rfl rfl rfl rfl (s_val (v_loadl ty3 rfl rfl rfl rfl) rfl rfl ?_)
        refine g_step_yes (j := 3) (t := 134) rfl rfl rfl rfl (s_val (v_eql rfl rfl) rfl rfl ?_)
        refine g_step rfl (s_val (v_pick_f rfl rfl) rfl rfl ?_)
        refine g_nil ?_
        refine g_next hK50 ?_
        first | refine g_keep [9, 138] [2, 3, 4, 6, 8, 10] [2, 3, 4, 6, 8, 10] (keep_cons rfl (keep_cons rfl keep_nil)) (lkeep_cons rfl (lkeep_cons rfl (lkeep_cons rfl (lkeep_cons rfl (lkeep_cons rfl (lkeep_cons rfl lkeep_nil)))))) (keep_cons rfl (keep_cons rfl (keep_cons rfl (keep_cons rfl (keep_cons rfl (keep_cons rfl keep_nil)))))) rfl ?_ | refine g_keep [9, 138] [2, 3, 4, 6, 8, 10] [2, 3, 4, 6, 8, 10] rfl rfl rfl rfl ?_
        refine g_cond rfl (fun hc138 => ?_) (fun hc138 => ?_)
        · try simp only [decide_eq_true_eq, decide_eq_false_iff_not, Bool.not_eq_true', Bool.not_eq_false', Bool.not_eq_eq_eq_not, Bool.not_true, Bool.not_false, Bool.and_eq_true, Bool.or_eq_true, Bool.or_eq_false_iff, beq_iff_eq, beq_eq_false_iff_ne, ne_eq, Int.not_lt, Int.not_le, Decidable.not_not] at hc138
          refine g_seq (fun K60 hK60 => ?_)
          refine g_seq (fun K61 hK61 => ?_)
          refine g_region ?_
          have hk12 : a.k = 1 ∨ a.k = 2 := by omega
          refine g_step rfl (s_val (v_move rfl) rfl rfl ?_)
          refine g_step rfl (s_val (v_not rfl) rfl rfl ?_)
          refine g_step rfl (s_val (v_move rfl) rfl rfl ?_)
          refine g_split 141 rfl (fun hg141 => ?_) (fun hg141 => ?_)
          · try simp only [decide_eq_true_eq, decide_eq_false_iff_not, Bool.not_eq_true', Bool.not_eq_false', Bool.not_eq_eq_eq_not, Bool.not_true, Bool.not_false, Bool.and_eq_true, Bool.or_eq_true, Bool.or_eq_false_iff, beq_iff_eq, beq_eq_false_iff_ne, ne_eq, Int.not_lt, Int.not_le, Decidable.not_not] at hg141
            refine g_step_no (j := 2) (t := 141) rfl rfl rfl rfl rfl rfl rfl ?_
            refine g_step_no (j := 2) (t := 141) rfl rfl rfl rfl rfl rfl rfl ?_
            refine g_step_no (j := 2) (t := 141) rfl rfl rfl rfl rfl rfl rfl ?_
            refine g_step_no (j := 2) (t := 141) rfl rfl rfl rfl rfl rfl rfl ?_
            refine g_step_no (j := 2) (t := 141) rfl rfl rfl rfl rfl rfl rfl ?_
            refine g_step_no (j := 2) (t := 141) rfl rfl rfl rfl rfl rfl rfl ?_
            refine g_step rfl (s_val (v_pick_t rfl rfl) rfl rfl ?_)
            refine g_step rfl (s_val (v_move rfl) rfl rfl ?_)
            refine g_step_no (j := 10) (t := 149) rfl rfl rfl rfl rfl rfl rfl ?_
            refine g_step_no (j := 10) (t := 149) rfl rfl rfl rfl rfl rfl rfl ?_
            refine g_step_no (j := 10) (t := 149) rfl rfl rfl rfl rfl rfl rfl ?_
            refine g_step_no (j := 10) (t := 149) rfl rfl rfl rfl rfl rfl rfl ?_
            refine g_step_no (j := 10) (t := 149) rfl rfl rfl rfl rfl rfl rfl ?_
            refine g_step_no (j := 10) (t := 149) rfl rfl rfl rfl rfl rfl rfl ?_
            refine g_step rfl (s_val (v_pick_t rfl rfl) rfl rfl ?_)
            refine g_step rfl (s_val (v_move rfl) rfl rfl ?_)
            refine g_step_no (j := 18) (t := 157) rfl rfl rfl rfl rfl rfl rfl ?_
            refine g_step_no (j := 18) (t := 157) rfl rfl rfl rfl rfl rfl rfl ?_
            refine g_step_no (j := 18) (t := 157) rfl rfl rfl rfl rfl rfl rfl ?_
            refine g_step_no (j := 18) (t := 157) rfl rfl rfl rfl rfl rfl rfl ?_
            refine g_step_no (j := 18) (t := 157) rfl rfl rfl rfl rfl rfl rfl ?_
            refine g_step_no (j := 18) (t := 157) rfl rfl rfl rfl rfl rfl rfl ?_
            refine g_step rfl (s_val (v_pick_t rfl rfl) rfl rfl ?_)
            refine g_nil ?_
            refine g_next hK61 ?_
            first | refine g_keep [164] [2, 3, 4, 8, 10] [2, 3, 4, 8, 10] (keep_cons rfl keep_nil) (lkeep_cons rfl (lkeep_cons rfl (lkeep_cons rfl (lkeep_cons rfl (lkeep_cons rfl lkeep_nil))))) (keep_cons rfl (keep_cons rfl (keep_cons rfl (keep_cons rfl (keep_cons rfl keep_nil))))) rfl ?_ | refine g_keep [164] [2, 3, 4, 8, 10] [2, 3, 4, 8, 10] rfl rfl rfl rfl ?_
            refine g_cond rfl (fun _ => ?_) (fun h => by cases h)
            refine g_seq (fun K62 hK62 => ?_)
            refine g_region ?_
            have hM : moveT me l a.rc.id a.rc.inc (a.k - 1) a.k = (l, false) := by cases hq : (rfind l a.rc.id).2; simp [moveT, rfind_no hq]; (rw [moveT, rfind_yes hq]; first | exact if_pos (by omega) | (exfalso; simp_all; done))
            have hR : doL me room l a = (l, 0) := by rw [doL, if_neg hk0, if_pos hk12, hM]; rfl
            refine g_step rfl (s_val (by first | exact v_loadl_all ty61 rfl rfl rfl rfl rfl | exact v_loadl_part (cs := [_, _, _]) ty61 rfl rfl rfl rfl rfl rfl) rfl rfl ?_)
            refine g_step rfl (s_store_all ty61 rfl rfl rfl rfl rfl rfl ?_)
            refine g_step rfl (s_val (v_assign rfl) rfl rfl ?_)
            refine g_nil ?_
            refine g_next hK62 ?_
            refine g_ret ?_
            refine g_then_ret ?_
            refine g_then_ret ?_
            refine g_end2 (.inl rfl) Try.results30 (.agg ty61 rfl rfl rfl rfl rfl) (.tmp rfl) [] (ASub.refl _) (AHeap.sub_refl _) (fun p hp => by cases hp) ⟨rfl, ?_⟩
            first | (rw [hR]; rfl; done) | (rw [hR]; rfl; rfl)
          · try simp only [decide_eq_true_eq, decide_eq_false_iff_not, Bool.not_eq_true', Bool.not_eq_false', Bool.not_eq_eq_eq_not, Bool.not_true, Bool.not_false, Bool.and_eq_true, Bool.or_eq_true, Bool.or_eq_false_iff, beq_iff_eq, beq_eq_false_iff_ne, ne_eq, Int.not_lt, Int.not_le, Decidable.not_not] at hg141
            refine g_step_yes (j := 2) (t := 141) rfl rfl rfl rfl (s_fieldAddr ty65 fo65_1 ty46 rfl rfl ?_)
            refine g_step_yes (j := 2) (t := 141) rfl rfl rfl rfl (s_fieldAddr ty46 fo46_0 ty3 rfl rfl ?_)
            refine g_step_yes (j := 2) (t := 141) rfl rfl rfl rfl (s_val (v_loadl ty3 rfl rfl rfl rfl) rfl rfl ?_)
            refine g_step_yes (j := 2) (t := 141) rfl rfl rfl rfl (s_fieldAddr ty61 fo61_0 ty3 rfl rfl ?_)
            refine g_step_yes (j := 2) (t := 141) rfl rfl rfl rfl (s_val (v_loadl ty3 rfl rfl rfl rfl) rfl rfl ?_)
            refine g_step_yes (j := 2) (t := 141) rfl rfl rfl rfl (s_val (v_eql rfl rfl) rfl rfl ?_)
            refine g_step rfl (s_val (v_pick_f rfl rfl) rfl rfl ?_)
            refine g_step rfl (s_val (v_move rfl) rfl rfl ?_)
            refine g_split 149 rfl (fun hg149 => ?_) (fun hg149 => ?_)
            · try simp only [decide_eq_true_eq, decide_eq_false_iff_not, Bool.not_eq_true', Bool.not_eq_false', Bool.not_eq_eq_eq_not, Bool.not_true, Bool.not_false, Bool.and_eq_true, Bool.or_eq_true, Bool.or_eq_false_iff, beq_iff_eq, beq_eq_false_iff_ne, ne_eq, Int.not_lt, Int.not_le, Decidable.not_not] at hg149
              refine g_step_no (j := 10) (t := 149) rfl rfl rfl rfl rfl rfl rfl ?_
              refine g_step_no (j := 10) (t := 149) rfl rfl rfl rfl rfl rfl rfl ?_
              refine g_step_no (j := 10) (t := 149) rfl rfl rfl rfl rfl rfl rfl ?_
              refine g_step_no (j := 10) (t := 149) rfl rfl rfl rfl rfl rfl rfl ?_
              refine g_step_no (j := 10) (t := 149) rfl rfl rfl rfl rfl rfl rfl ?_
              refine g_step_no (j := 10) (t := 149) rfl rfl rfl rfl rfl rfl rfl ?_
              refine g_step rfl (s_val (v_pick_t rfl rfl) rfl rfl ?_)
              refine g_step rfl (s_val (v_move rfl) rfl rfl ?_)
              refine g_step_no (j := 18) (t := 157) rfl rfl rfl rfl rfl rfl rfl ?_
              refine g_step_no (j := 18) (t := 157) rfl rfl rfl rfl rfl rfl rfl ?_
              refine g_step_no (j := 18) (t := 157) rfl rfl rfl rfl rfl rfl rfl ?_
              refine g_step_no (j := 18) (t := 157) rfl rfl rfl rfl rfl rfl rfl ?_
              refine g_step_no (j := 18) (t := 157) rfl rfl rfl rfl rfl rfl rfl ?_
              refine g_step_no (j := 18) (t := 157) rfl rfl rfl rfl rfl rfl rfl ?_
              refine g_step rfl (s_val (v_pick_t rfl rfl) rfl rfl ?_)
              refine g_nil ?_
              refine g_next hK61 ?_
              first | refine g_keep [164] [2, 3, 4, 8, 10] [2, 3, 4, 8, 10] (keep_cons rfl keep_nil) (lkeep_cons rfl (lkeep_cons rfl (lkeep_cons rfl (lkeep_cons rfl (lkeep_cons rfl lkeep_nil))))) (keep_cons rfl (keep_cons rfl (keep_cons rfl (keep_cons rfl (keep_cons rfl keep_nil))))) rfl ?_ | refine g_keep [164] [2, 3, 4, 8, 10] [2, 3, 4, 8, 10] rfl rfl rfl rfl ?_
              refine g_cond rfl (fun _ => ?_) (fun h => by cases h)
              refine g_seq (fun K63 hK63 => ?_)
              refine g_region ?_
              have hM : moveT me l a.rc.id a.rc.inc (a.k - 1) a.k = (l, false) := by cases hq : (rfind l a.rc.id).2; simp [moveT, rfind_no hq]; (rw [moveT, rfind_yes hq]; first | exact if_pos (by omega) | (exfalso; simp_all; done))
              have hR : doL me room l a = (l, 0) := by rw [doL, if_neg hk0, if_pos hk12, hM]; rfl
              refine g_step rfl (s_val (by first | exact v_loadl_all ty61 rfl rfl rfl rfl rfl | exact v_loadl_part (cs := [_, _, _]) ty61 rfl rfl rfl rfl rfl rfl) rfl rfl ?_)
              refine g_step rfl (s_store_all ty61 rfl rfl rfl rfl rfl rfl ?_)
              refine g_step rfl (s_val (v_assign rfl) rfl rfl ?_)
              refine g_nil ?_
              refine g_next hK63 ?_
              refine g_ret ?_
              refine g_then_ret ?_
              refine g_then_ret ?_
              refine g_end2 (.inl rfl) Try.results30 (.agg ty61 rfl rfl rfl rfl rfl) (.tmp rfl) [] (ASub.refl _) (AHeap.sub_refl _) (fun p hp => by cases hp) ⟨rfl, ?_⟩
              first | (rw [hR]; rfl; done) | (rw [hR]; rfl; rfl)
            · try simp only [decide_eq_true_eq, decide_eq_false_iff_not, Bool.not_eq_true', Bool.not_eq_false', Bool.not_eq_eq_eq_not, Bool.not_true, Bool.not_false, Bool.and_eq_true, Bool.or_eq_true, Bool.or_eq_false_iff, beq_iff_eq, beq_eq_false_iff_ne, ne_eq, Int.not_lt, Int.not_le, Decidable.not_not] at hg149
              refine g_step_yes (j := 10) (t := 149) rfl rfl rfl rfl (s_fieldAddr ty46 fo46_1 ty3 rfl rfl ?_)
              refine g_step_yes (j := 10) (t := 149) rfl rfl rfl rfl (s_val (v_loadl ty3 rfl rfl rfl rfl) rfl rfl ?_)
              refine g_step_yes (j := 10) (t := 149) rfl rfl rfl rfl (s_fieldAddr ty65 fo65_1 ty46 rfl rfl ?_)
              refine g_step_yes (j := 10) (t := 149) rfl rfl rfl rfl (s_fieldAddr ty46 fo46_1 ty3 rfl rfl ?_)
              refine g_step_yes (j := 10) (t := 149) rfl rfl rfl rfl (s_val (v_loadl ty3 rfl rfl rfl rfl) rfl rfl ?_)
              refine g_step_yes (j := 10) (t := 149) rfl rfl rfl rfl (s_val (v_neq rfl rfl) rfl rfl ?_)
              refine g_step rfl (s_val (v_pick_f rfl rfl) rfl rfl ?_)
              refine g_step rfl (s_val (v_move rfl) rfl rfl ?_)
              refine g_split 157 rfl (fun hg157 => ?_) (fun hg157 => ?_)
              · try simp only [decide_eq_true_eq, decide_eq_false_iff_not, Bool.not_eq_true', Bool.not_eq_false', Bool.not_eq_eq_eq_not, Bool.not_true, Bool.not_false, Bool.and_eq_true, Bool.or_eq_true, Bool.or_eq_false_iff, beq_iff_eq, beq_eq_false_iff_ne, ne_eq, Int.not_lt, Int.not_le, Decidable.not_not] at hg157
                refine g_step_no (j := 18) (t := 157) rfl rfl rfl rfl rfl rfl rfl ?_
                refine g_step_no (j := 18) (t := 157) rfl rfl rfl rfl rfl rfl rfl ?_
                refine g_step_no (j := 18) (t := 157) rfl rfl rfl rfl rfl rfl rfl ?_
                refine g_step_no (j := 18) (t := 157) rfl rfl rfl rfl rfl rfl rfl ?_
                refine g_step_no (j := 18) (t := 157) rfl rfl rfl rfl rfl rfl rfl ?_
                refine g_step_no (j := 18) (t := 157) rfl rfl rfl rfl rfl rfl rfl ?_
                refine g_step rfl (s_val (v_pick_t rfl rfl) rfl rfl ?_)
                refine g_nil ?_
                refine g_next hK61 ?_
                refine g_cond rfl (fun _ => ?_) (fun h => by cases h)
                refine g_seq (fun K64 hK64 => ?_)
                refine g_region ?_
                have hM : moveT me l a.rc.id a.rc.inc (a.k - 1) a.k = (l, false) := by cases hq : (rfind l a.rc.id).2; simp [moveT, rfind_no hq]; (rw [moveT, rfind_yes hq]; first | exact if_pos (by omega) | (exfalso; simp_all; done))
                have hR : doL me room l a = (l, 0) := by rw [doL, if_neg hk0, if_pos hk12, hM]; rfl
                refine g_step rfl (s_val (by first | exact v_loadl_all ty61 rfl rfl rfl rfl rfl | exact v_loadl_part (cs := [_, _, _]) ty61 rfl rfl rfl rfl rfl rfl) rfl rfl ?_)
                refine g_step rfl (s_store_all ty61 rfl rfl rfl rfl rfl rfl ?_)
                refine g_step rfl (s_val (v_assign rfl) rfl rfl ?_)
                refine g_nil ?_
                refine g_next hK64 ?_
                refine g_ret ?_
                refine g_then_ret ?_
                refine g_then_ret ?_
                refine g_end2 (.inl rfl) Try.results30 (.agg ty61 rfl rfl rfl rfl rfl) (.tmp rfl) [] (ASub.refl _) (AHeap.sub_refl _) (fun p hp => by cases hp) ⟨rfl, ?_⟩
                first | (rw [hR]; rfl; done) | (rw [hR]; rfl; rfl)
              · try simp only [decide_eq_true_eq, decide_eq_false_iff_not, Bool.not_eq_true', Bool.not_eq_false', Bool.not_eq_eq_eq_not, Bool.not_true, Bool.not_false, Bool.and_eq_true, Bool.or_eq_true, Bool.or_eq_false_iff, beq_iff_eq, beq_eq_false_iff_ne, ne_eq, Int.not_lt, Int.not_le, Decidable.not_not] at hg157
                refine g_step_yes (j := 18) (t := 157) rfl rfl rfl rfl (s_fieldAddr ty46 fo46_2 ty3 rfl rfl ?_)
                refine g_step_yes (j := 18) (t := 157) rfl rfl rfl rfl (s_val (v_loadl ty3 rfl rfl rfl rfl) rfl rfl ?_)
                refine g_step_yes (j := 18) (t := 157) rfl rfl rfl rfl (s_fieldAddr ty65 fo65_0 ty3 rfl rfl ?_)
                refine g_step_yes (j := 18) (t := 157) rfl rfl rfl rfl (s_val (v_loadl ty3 rfl rfl rfl rfl) rfl rfl ?_)
                refine g_step_yes (j := 18) (t := 157) rfl rfl rfl rfl (s_val (v_sub_ rfl rfl (by omega)) rfl rfl ?_)
                refine g_step_yes (j := 18) (t := 157) rfl rfl rfl rfl (s_val (v_neq rfl rfl) rfl rfl ?_)
                refine g_step rfl (s_val (v_pick_f rfl rfl) rfl rfl ?_)
                refine g_nil ?_
                refine g_next hK61 ?_
                refine g_cond rfl (fun hc164 => ?_) (fun hc164 => ?_)
                · try simp only [decide_eq_true_eq, decide_eq_false_iff_not, Bool.not_eq_true', Bool.not_eq_false', Bool.not_eq_eq_eq_not, Bool.not_true, Bool.not_false, Bool.and_eq_true, Bool.or_eq_true, Bool.or_eq_false_iff, beq_iff_eq, beq_eq_false_iff_ne, ne_eq, Int.not_lt, Int.not_le, Decidable.not_not] at hc164
                  refine g_seq (fun K65 hK65 => ?_)
                  refine g_region ?_
                  have hM : moveT me l a.rc.id a.rc.inc (a.k - 1) a.k = (l, false) := by cases hq : (rfind l a.rc.id).2; simp [moveT, rfind_no hq]; (rw [moveT, rfind_yes hq]; first | exact if_pos (by omega) | (exfalso; simp_all; done))
                  have hR : doL me room l a = (l, 0) := by rw [doL, if_neg hk0, if_pos hk12, hM]; rfl
                  refine g_step rfl (s_val (by first | exact v_loadl_all ty61 rfl rfl rfl rfl rfl | exact v_loadl_part (cs := [_, _, _]) ty61 rfl rfl rfl rfl rfl rfl) rfl rfl ?_)
                  refine g_step rfl (s_store_all ty61 rfl rfl rfl rfl rfl rfl ?_)
                  refine g_step rfl (s_val (v_assign rfl) rfl rfl ?_)
                  refine g_nil ?_
                  refine g_next hK65 ?_
                  refine g_ret ?_
                  refine g_then_ret ?_
                  refine g_then_ret ?_
                  refine g_end2 (.inl rfl) Try.results30 (.agg ty61 rfl rfl rfl rfl rfl) (.tmp rfl) [] (ASub.refl _) (AHeap.sub_refl _) (fun p hp => by cases hp) ⟨rfl, ?_⟩
                  first | (rw [hR]; rfl; done) | (rw [hR]; rfl; rfl)
                · try simp only [decide_eq_true_eq, decide_eq_false_iff_not, Bool.not_eq_true', Bool.not_eq_false', Bool.not_eq_eq_eq_not, Bool.not_true, Bool.not_false, Bool.and_eq_true, Bool.or_eq_true, Bool.or_eq_false_iff, beq_iff_eq, beq_eq_false_iff_ne, ne_eq, Int.not_lt, Int.not_le, Decidable.not_not] at hc164
                  refine g_skip ?_
                  refine g_next hK60 ?_
                  refine g_seq (fun K66 hK66 => ?_)
                  refine g_region ?_
                  have hy := rfind_yes (l := l) (id := a.rc.id) (by simp_all)
                  have hM : moveT me l a.rc.id a.rc.inc (a.k - 1) a.k = (rput l (withSt (rfind l a.rc.id).1 a.k), true) := by rw [moveT, hy]; exact if_neg (by omega)
                  have hR : doL me room l a = (rput l (withSt (rfind l a.rc.id).1 a.k), 1) := by rw [doL, if_neg hk0, if_pos hk12, hM]; rfl
                  refine g_step rfl (s_fieldAddr ty65 fo65_0 ty3 rfl rfl ?_)
                  refine g_step rfl (s_val (v_loadl ty3 rfl rfl rfl rfl) rfl rfl ?_)
                  refine g_step rfl (s_fieldAddr ty46 fo46_2 ty3 rfl rfl ?_)
                  refine g_step rfl (s_store (new := (encR (withSt (rfind l a.rc.id).1 a.k))) ty3 rfl rfl rfl rfl rfl rfl rfl ?_)
                  refine g_nil ?_
                  refine g_next hK66 ?_
                  refine g_seq (fun K67 hK67 => ?_)
                  refine g_region ?_
                  refine g_step rfl (s_fieldAddr ty61 fo61_2 ty22 rfl rfl ?_)
                  refine g_step rfl (s_val (v_loadl ty22 rfl rfl rfl rfl) rfl rfl ?_)
                  refine g_step rfl (s_val (by first | exact v_loadl_all ty46 rfl rfl rfl rfl rfl | exact v_loadl_part (cs := [_, _, _, _, _, _, _]) ty46 rfl rfl rfl rfl rfl rfl) rfl rfl ?_)
                  refine g_step rfl (s_callp rfl rfl rfl (put_ok l (withSt (rfind l a.rc.id).1 a.k) _ _ rfl (by omega) hs (hsY)) ?_)
                  rintro _ rfl
                  refine g_step rfl (s_fieldAddr ty61 fo61_2 ty22 rfl rfl ?_)
                  refine g_step rfl (s_store (new := (mdl me room (rput l (withSt (rfind l a.rc.id).1 a.k)))) ty22 rfl rfl rfl rfl rfl rfl rfl ?_)
                  refine g_nil ?_
                  refine g_next hK67 ?_
                  refine g_seq (fun K68 hK68 => ?_)
                  refine g_region ?_
                  refine g_step rfl (s_val (by first | exact v_loadl_all ty61 rfl rfl rfl rfl rfl | exact v_loadl_part (cs := [_, _, _]) ty61 rfl rfl rfl rfl rfl rfl) rfl rfl ?_)
                  refine g_step rfl (s_store_all ty61 rfl rfl rfl rfl rfl rfl ?_)
                  refine g_step rfl (s_val (v_assign rfl) rfl rfl ?_)
                  refine g_nil ?_
                  refine g_next hK68 ?_
                  first | refine g_keep [5] [4] [4] (keep_cons rfl keep_nil) (lkeep_cons rfl lkeep_nil) (keep_cons rfl keep_nil) rfl ?_ | refine g_keep [5] [4] [4] rfl rfl rfl rfl ?_
                  refine g_ret ?_
                  refine g_then_ret ?_
                  refine g_end2 (.inl rfl) Try.results30 (.agg ty61 rfl rfl rfl rfl rfl) (.tmp rfl) [] (ASub.refl _) (AHeap.sub_refl _) (fun p hp => by cases hp) ⟨rfl, ?_⟩
                  first | (rw [hR]; rfl; done) | (rw [hR]; rfl; rfl)
        · try simp only [decide_eq_true_eq, decide_eq_false_iff_not, Bool.not_eq_true', Bool.not_eq_false', Bool.not_eq_eq_eq_not, Bool.not_true, Bool.not_false, Bool.and_eq_true, Bool.or_eq_true, Bool.or_eq_false_iff, beq_iff_eq, beq_eq_false_iff_ne, ne_eq, Int.not_lt, Int.not_le, Decidable.not_not] at hc138
          refine g_skip ?_
          refine g_next hK49 ?_
          refine g_seq (fun K69 hK69 => ?_)
          refine g_seq (fun K70 hK70 => ?_)
          refine g_region ?_
          refine g_step rfl (s_fieldAddr ty65 fo65_0 ty3 rfl rfl ?_)
          refine g_step rfl (s_val (v_loadl ty3 rfl rfl rfl rfl) rfl rfl ?_)
          refine g_step rfl (s_val (v_eql rfl rfl) rfl rfl ?_)
          refine g_nil ?_
          refine g_next hK70 ?_
          refine g_cond rfl (fun hc177 => ?_) (fun hc177 => ?_)
          · try simp only [decide_eq_true_eq, decide_eq_false_iff_not, Bool.not_eq_true', Bool.not_eq_false', Bool.not_eq_eq_eq_not, Bool.not_true, Bool.not_false, Bool.and_eq_true, Bool.or_eq_true, Bool.or_eq_false_iff, beq_iff_eq, beq_eq_false_iff_ne, ne_eq, Int.not_lt, Int.not_le, Decidable.not_not] at hc177
            have hk12 : ¬ (a.k = 1 ∨ a.k = 2) := by omega
            have hk3 : a.k = 3 := by omega
            refine g_seq (fun K71 hK71 => ?_)
            refine g_seq (fun K72 hK72 => ?_)
            refine g_region ?_
            refine g_step rfl (s_fieldAddr ty65 fo65_1 ty46 rfl rfl ?_)
            refine g_step rfl (s_fieldAddr ty46 fo46_5 ty44 rfl rfl ?_)
            refine g_step rfl (s_val (v_loadl ty44 rfl rfl rfl rfl) rfl rfl ?_)
            refine g_step rfl (s_callp rfl rfl rfl (bagValid_ok a.rc.bag _ _ rfl hb) ?_)
            rintro _ rfl
            refine g_step rfl (s_val (v_not rfl) rfl rfl ?_)
            refine g_nil ?_
            refine g_next hK72 ?_
            refine g_cond rfl (fun hc182 => ?_) (fun hc182 => ?_)
            · try simp only [decide_eq_true_eq, decide_eq_false_iff_not, Bool.not_eq_true', Bool.not_eq_false', Bool.not_eq_eq_eq_not, Bool.not_true, Bool.not_false, Bool.and_eq_true, Bool.or_eq_true, Bool.or_eq_false_iff, beq_iff_eq, beq_eq_false_iff_ne, ne_eq, Int.not_lt, Int.not_le, Decidable.not_not] at hc182
              refine g_seq (fun K73 hK73 => ?_)
              refine g_region ?_
              have hR : doL me room l a = (l, 1) := by rw [doL, if_neg hk0, if_neg hk12, if_pos hk3, changeT]; exact if_pos (by simp_all)
              refine g_step rfl (s_val (by first | exact v_loadl_all ty61 rfl rfl rfl rfl rfl | exact v_loadl_part (cs := [_, _, _]) ty61 rfl rfl rfl rfl rfl rfl) rfl rfl ?_)
              refine g_step rfl (s_store_all ty61 rfl rfl rfl rfl rfl rfl ?_)
              refine g_step rfl (s_val (v_assign rfl) rfl rfl ?_)
              refine g_nil ?_
              refine g_next hK73 ?_
              refine g_ret ?_
              refine g_then_ret ?_
              refine g_then_ret ?_
              refine g_end2 (.inl rfl) Try.results30 (.agg ty61 rfl rfl rfl rfl rfl) (.tmp rfl) [] (ASub.refl _) (AHeap.sub_refl _) (fun p hp => by cases hp) ⟨rfl, ?_⟩
              first | (rw [hR]; rfl; done) | (rw [hR]; rfl; rfl)
            · try simp only [decide_eq_true_eq, decide_eq_false_iff_not, Bool.not_eq_true', Bool.not_eq_false', Bool.not_eq_eq_eq_not, Bool.not_true, Bool.not_false, Bool.and_eq_true, Bool.or_eq_true, Bool.or_eq_false_iff, beq_iff_eq, beq_eq_false_iff_ne, ne_eq, Int.not_lt, Int.not_le, Decidable.not_not] at hc182
              refine g_skip ?_
              refine g_next hK71 ?_
              refine g_seq (fun K74 hK74 => ?_)
              refine g_seq (fun K75 hK75 => ?_)
              refine g_region ?_
              have hvb : ¬ (bagValid a.rc.bag = false) := by simp_all
              have hC : doL me room l a = if o.st = 3 then (l, 15) else if 281474976710655 ≤ o.inc then (l, 6) else (rput l (wthBag o a.rc.bag), 0) := by rw [doL, if_neg hk0, if_neg hk12, if_pos hk3, changeT, if_neg hvb, ho]
              refine g_step rfl (s_fieldAddr ty46 fo46_2 ty3 rfl rfl ?_)
              refine g_step rfl (s_val (v_loadl ty3 rfl rfl rfl rfl) rfl rfl ?_)
              refine g_step rfl (s_val (v_eql rfl rfl) rfl rfl ?_)
              refine g_nil ?_
              refine g_next hK75 ?_
              refine g_cond rfl (fun hc186 => ?_) (fun hc186 => ?_)
              · try simp only [decide_eq_true_eq, decide_eq_false_iff_not, Bool.not_eq_true', Bool.not_eq_false', Bool.not_eq_eq_eq_not, Bool.not_true, Bool.not_false, Bool.and_eq_true, Bool.or_eq_true, Bool.or_eq_false_iff, beq_iff_eq, beq_eq_false_iff_ne, ne_eq, Int.not_lt, Int.not_le, Decidable.not_not] at hc186
                refine g_seq (fun K76 hK76 => ?_)
                refine g_region ?_
                have hR : doL me room l a = (l, 15) := by rw [hC, if_pos (by omega)]
                refine g_step rfl (s_val (by first | exact v_loadl_all ty61 rfl rfl rfl rfl rfl | exact v_loadl_part (cs := [_, _, _]) ty61 rfl rfl rfl rfl rfl rfl) rfl rfl ?_)
                refine g_step rfl (s_store_all ty61 rfl rfl rfl rfl rfl rfl ?_)
                refine g_step rfl (s_val (v_assign rfl) rfl rfl ?_)
                refine g_nil ?_
                refine g_next hK76 ?_
                refine g_ret ?_
                refine g_then_ret ?_
                refine g_then_ret ?_
                refine g_end2 (.inl rfl) Try.results30 (.agg ty61 rfl rfl rfl rfl rfl) (.tmp rfl) [] (ASub.refl _) (AHeap.sub_refl _) (fun p hp => by cases hp) ⟨rfl, ?_⟩
                first | (rw [hR]; rfl; done) | (rw [hR]; rfl; rfl)
              · try simp only [decide_eq_true_eq, decide_eq_false_iff_not, Bool.not_eq_true', Bool.not_eq_false', Bool.not_eq_eq_eq_not, Bool.not_true, Bool.not_false, Bool.and_eq_true, Bool.or_eq_true, Bool.or_eq_false_iff, beq_iff_eq, beq_eq_false_iff_ne, ne_eq, Int.not_lt, Int.not_le, Decidable.not_not] at hc186
                refine g_skip ?_
                refine g_next hK74 ?_
                refine g_seq (fun K77 hK77 => ?_)
                refine g_seq (fun K78 hK78 => ?_)
                refine g_region ?_
                refine g_step rfl (s_fieldAddr ty46 fo46_1 ty3 rfl rfl ?_)
                refine g_step rfl (s_val (v_loadl ty3 rfl rfl rfl rfl) rfl rfl ?_)
                refine g_step rfl (s_val (v_geq rfl rfl) rfl rfl ?_)
                refine g_nil ?_
                refine g_next hK78 ?_
                refine g_cond rfl (fun hc190 => ?_) (fun hc190 => ?_)
                · try simp only [decide_eq_true_eq, decide_eq_false_iff_not, Bool.not_eq_true', Bool.not_eq_false', Bool.not_eq_eq_eq_not, Bool.not_true, Bool.not_false, Bool.and_eq_true, Bool.or_eq_true, Bool.or_eq_false_iff, beq_iff_eq, beq_eq_false_iff_ne, ne_eq, Int.not_lt, Int.not_le, Decidable.not_not] at hc190
                  refine g_seq (fun K79 hK79 => ?_)
                  refine g_region ?_
                  have hR : doL me room l a = (l, 6) := by rw [hC, if_neg (by omega), if_pos (by omega)]
                  refine g_step rfl (s_val (by first | exact v_loadl_all ty61 rfl rfl rfl rfl rfl | exact v_loadl_part (cs := [_, _, _]) ty61 rfl rfl rfl rfl rfl rfl) rfl rfl ?_)
                  refine g_step rfl (s_store_all ty61 rfl rfl rfl rfl rfl rfl ?_)
                  refine g_step rfl (s_val (v_assign rfl) rfl rfl ?_)
                  refine g_nil ?_
                  refine g_next hK79 ?_
                  refine g_ret ?_
                  refine g_then_ret ?_
                  refine g_then_ret ?_
                  refine g_end2 (.inl rfl) Try.results30 (.agg ty61 rfl rfl rfl rfl rfl) (.tmp rfl) [] (ASub.refl _) (AHeap.sub_refl _) (fun p hp => by cases hp) ⟨rfl, ?_⟩
                  first | (rw [hR]; rfl; done) | (rw [hR]; rfl; rfl)
                · try simp only [decide_eq_true_eq, decide_eq_false_iff_not, Bool.not_eq_true', Bool.not_eq_false', Bool.not_eq_eq_eq_not, Bool.not_true, Bool.not_false, Bool.and_eq_true, Bool.or_eq_true, Bool.or_eq_false_iff, beq_iff_eq, beq_eq_false_iff_ne, ne_eq, Int.not_lt, Int.not_le, Decidable.not_not] at hc190
                  refine g_skip ?_
                  refine g_next hK77 ?_
                  refine g_seq (fun K80 hK80 => ?_)
                  refine g_region ?_
                  have hR : doL me room l a = (rput l (wthBag o a.rc.bag), 0) := by rw [hC, if_neg (by omega), if_neg (by omega)]
                  refine g_step rfl (s_fieldAddr ty46 fo46_1 ty3 rfl rfl ?_)
                  refine g_step rfl (s_val (v_loadl ty3 rfl rfl rfl rfl) rfl rfl ?_)
                  refine g_step rfl (s_val (v_add rfl rfl (by omega)) rfl rfl ?_)
                  refine g_step rfl (s_fieldAddr ty46 fo46_1 ty3 rfl rfl ?_)
                  refine g_step rfl (s_store (new := (encR (wthInc o (o.inc + 1)))) ty3 rfl rfl rfl rfl rfl rfl rfl ?_)
                  refine g_nil ?_
                  refine g_next hK80 ?_
                  refine g_seq (fun K81 hK81 => ?_)
                  refine g_region ?_
                  refine g_step rfl (s_fieldAddr ty46 fo46_4 ty4 rfl rfl ?_)
                  refine g_step rfl (s_store (new := (encR (⟨o.id, o.inc + 1, o.st, o.sp, false, o.bag⟩ : Rc))) ty4 rfl rfl rfl rfl rfl rfl rfl ?_)
                  refine g_nil ?_
                  refine g_next hK81 ?_
                  refine g_seq (fun K82 hK82 => ?_)
                  refine g_region ?_
                  refine g_step rfl (s_fieldAddr ty65 fo65_1 ty46 rfl rfl ?_)
                  refine g_step rfl (s_fieldAddr ty46 fo46_5 ty44 rfl rfl ?_)
                  refine g_step rfl (s_val (v_loadl ty44 rfl rfl rfl rfl) rfl rfl ?_)
                  refine g_step rfl (s_fieldAddr ty46 fo46_5 ty44 rfl rfl ?_)
                  refine g_step rfl (s_store (new := (encR (wthBag o a.rc.bag))) ty44 rfl rfl rfl rfl rfl rfl rfl ?_)
                  refine g_nil ?_
                  refine g_next hK82 ?_
                  refine g_seq (fun K83 hK83 => ?_)
                  refine g_region ?_
                  refine g_step rfl (s_fieldAddr ty61 fo61_2 ty22 rfl rfl ?_)
                  refine g_step rfl (s_val (v_loadl ty22 rfl rfl rfl rfl) rfl rfl ?_)
                  refine g_step rfl (s_val (by first | exact v_loadl_all ty46 rfl rfl rfl rfl rfl | exact v_loadl_part (cs := [_, _, _, _, _, _, _]) ty46 rfl rfl rfl rfl rfl rfl) rfl rfl ?_)
                  refine g_step rfl (s_callp rfl rfl rfl (put_ok l (wthBag o a.rc.bag) _ _ rfl (by omega) hs (hb)) ?_)
                  rintro _ rfl
                  refine g_step rfl (s_fieldAddr ty61 fo61_2 ty22 rfl rfl ?_)
                  refine g_step rfl (s_store (new := (mdl me room (rput l (wthBag o a.rc.bag)))) ty22 rfl rfl rfl rfl rfl rfl rfl ?_)
                  refine g_nil ?_
                  refine g_next hK83 ?_
                  refine g_seq (fun K84 hK84 => ?_)
                  refine g_region ?_
                  refine g_step rfl (s_val (by first | exact v_loadl_all ty61 rfl rfl rfl rfl rfl | exact v_loadl_part (cs := [_, _, _]) ty61 rfl rfl rfl rfl rfl rfl) rfl rfl ?_)
                  refine g_step rfl (s_store_all ty61 rfl rfl rfl rfl rfl rfl ?_)
                  refine g_step rfl (s_val (v_assign rfl) rfl rfl ?_)
                  refine g_nil ?_
                  refine g_next hK84 ?_
                  refine g_ret ?_
                  refine g_then_ret ?_
                  refine g_end2 (.inl rfl) Try.results30 (.agg ty61 rfl rfl rfl rfl rfl) (.tmp rfl) [] (ASub.refl _) (AHeap.sub_refl _) (fun p hp => by cases hp) ⟨rfl, ?_⟩
                  first | (rw [hR]; rfl; done) | (rw [hR]; rfl; rfl)
          · try simp only [decide_eq_true_eq, decide_eq_false_iff_not, Bool.not_eq_true', Bool.not_eq_false', Bool.not_eq_eq_eq_not, Bool.not_true, Bool.not_false, Bool.and_eq_true, Bool.or_eq_true, Bool.or_eq_false_iff, beq_iff_eq, beq_eq_false_iff_ne, ne_eq, Int.not_lt, Int.not_le, Decidable.not_not] at hc177
            have hk12 : ¬ (a.k = 1 ∨ a.k = 2) := by omega
            have hk3 : ¬ (a.k = 3) := by omega
            refine g_skip ?_
            refine g_next hK69 ?_
            refine g_seq (fun K85 hK85 => ?_)
            refine g_seq (fun K86 hK86 => ?_)
            refine g_region ?_
            refine g_step rfl (s_fieldAddr ty46 fo46_2 ty3 rfl rfl ?_)
            refine g_step rfl (s_val (v_loadl ty3 rfl rfl rfl rfl) rfl rfl ?_)
            refine g_step rfl (s_val (v_eql rfl rfl) rfl rfl ?_)
            refine g_nil ?_
            refine g_next hK86 ?_
            refine g_cond rfl (fun hc209 => ?_) (fun hc209 => ?_)
            · try simp only [decide_eq_true_eq, decide_eq_false_iff_not, Bool.not_eq_true', Bool.not_eq_false', Bool.not_eq_eq_eq_not, Bool.not_true, Bool.not_false, Bool.and_eq_true, Bool.or_eq_true, Bool.or_eq_false_iff, beq_iff_eq, beq_eq_false_iff_ne, ne_eq, Int.not_lt, Int.not_le, Decidable.not_not] at hc209
              refine g_seq (fun K87 hK87 => ?_)
              refine g_region ?_
              have hR : doL me room l a = (l, 0) := by rw [doL, if_neg hk0, if_neg hk12, if_neg hk3, leaveT, ho]; show ((if _ then (l, false) else _ : List Rc × Bool).1, oneI (if _ then (l, false) else _ : List Rc × Bool).2) = _; rw [if_pos (by omega)]; rfl
              refine g_step rfl (s_val (by first | exact v_loadl_all ty61 rfl rfl rfl rfl rfl | exact v_loadl_part (cs := [_, _, _]) ty61 rfl rfl rfl rfl rfl rfl) rfl rfl ?_)
              refine g_step rfl (s_store_all ty61 rfl rfl rfl rfl rfl rfl ?_)
              refine g_step rfl (s_val (v_assign rfl) rfl rfl ?_)
              refine g_nil ?_
              refine g_next hK87 ?_
              refine g_ret ?_
              refine g_then_ret ?_
              refine g_end2 (.inl rfl) Try.results30 (.agg ty61 rfl rfl rfl rfl rfl) (.tmp rfl) [] (ASub.refl _) (AHeap.sub_refl _) (fun p hp => by cases hp) ⟨rfl, ?_⟩
              first | (rw [hR]; rfl; done) | (rw [hR]; rfl; rfl)
            · try simp only [decide_eq_true_eq, decide_eq_false_iff_not, Bool.not_eq_true', Bool.not_eq_false', Bool.not_eq_eq_eq_not, Bool.not_true, Bool.not_false, Bool.and_eq_true, Bool.or_eq_true, Bool.or_eq_false_iff, beq_iff_eq, beq_eq_false_iff_ne, ne_eq, Int.not_lt, Int.not_le, Decidable.not_not] at hc209
              refine g_skip ?_
              refine g_next hK85 ?_
              refine g_seq (fun K88 hK88 => ?_)
              refine g_region ?_
              have hR : doL me room l a = (rput l (withSt o 3), 1) := by rw [doL, if_neg hk0, if_neg hk12, if_neg hk3, leaveT, ho]; show ((if _ then (l, false) else _ : List Rc × Bool).1, oneI (if _ then (l, false) else _ : List Rc × Bool).2) = _; rw [if_neg (by omega)]; rfl
              refine g_step rfl (s_fieldAddr ty46 fo46_2 ty3 rfl rfl ?_)
              refine g_step rfl (s_store (new := (encR (withSt o 3))) ty3 rfl rfl rfl rfl rfl rfl rfl ?_)
              refine g_nil ?_
              refine g_next hK88 ?_
              refine g_seq (fun K89 hK89 => ?_)
              refine g_region ?_
              refine g_step rfl (s_fieldAddr ty61 fo61_2 ty22 rfl rfl ?_)
              refine g_step rfl (s_val (v_loadl ty22 rfl rfl rfl rfl) rfl rfl ?_)
              refine g_step rfl (s_val (by first | exact v_loadl_all ty46 rfl rfl rfl rfl rfl | exact v_loadl_part (cs := [_, _, _, _, _, _, _]) ty46 rfl rfl rfl rfl rfl rfl) rfl rfl ?_)
              refine g_step rfl (s_callp rfl rfl rfl (put_ok l (withSt o 3) _ _ rfl (by omega) hs (hso)) ?_)
              rintro _ rfl
              refine g_step rfl (s_fieldAddr ty61 fo61_2 ty22 rfl rfl ?_)
              refine g_step rfl (s_store (new := (mdl me room (rput l (withSt o 3)))) ty22 rfl rfl rfl rfl rfl rfl rfl ?_)
              refine g_nil ?_
              refine g_next hK89 ?_
              refine g_seq (fun K90 hK90 => ?_)
              refine g_region ?_
              refine g_step rfl (s_val (by first | exact v_loadl_all ty61 rfl rfl rfl rfl rfl | exact v_loadl_part (cs := [_, _, _]) ty61 rfl rfl rfl rfl rfl rfl) rfl rfl ?_)
              refine g_step rfl (s_store_all ty61 rfl rfl rfl rfl rfl rfl ?_)
              refine g_step rfl (s_val (v_assign rfl) rfl rfl ?_)
              refine g_nil ?_
              refine g_next hK90 ?_
              refine g_ret ?_
              refine g_end2 (.inl rfl) Try.results30 (.agg ty61 rfl rfl rfl rfl rfl) (.tmp rfl) [] (ASub.refl _) (AHeap.sub_refl _) (fun p hp => by cases hp) ⟨rfl, ?_⟩
              first | (rw [hR]; rfl; done) | (rw [hR]; rfl; rfl)
  · refine ⟨_, rfl, .inl ⟨rfl, ?_⟩⟩
    refine sm_alloc (av := (.agg [(.int .i64 0), (.int .i64 0), .nil0])) ty61 rfl rfl rfl rfl ?_
    refine m_one 6 (by kernel_rfl) rfl rfl ?_
    refine sm_callp rfl rfl rfl (recCopy_ok l _ _ rfl (by omega) hs) ?_
    rintro _ rfl
    refine m_take 7 false rfl rfl (by kernel_rfl) (by kernel_rfl) (by kernel_rfl) (fun _ _ _ _ h => h) (v_build (vs := [(0, _), (1, _), (2, _)]) (zs := [(.int .i64 0), (.int .i64 0), .nil0]) (cells := [_, _, _]) ty61 pl61 rfl rfl rfl) rfl rfl ?_
    refine m_one 9 (by kernel_rfl) rfl rfl ?_
    refine sm_any rfl (s_store_all ty61 rfl rfl rfl rfl rfl rfl ?_)
    refine m_done (by kernel_rfl) ?_
    refine g_next hK3 ?_
    refine g_seq (fun K91 hK91 => ?_)
    refine g_seq (fun K92 hK92 => ?_)
    refine g_region ?_
    refine g_step rfl (s_fieldAddr ty65 fo65_0 ty3 rfl rfl ?_)
    refine g_step rfl (s_val (v_loadl ty3 rfl rfl rfl rfl) rfl rfl ?_)
    refine g_step rfl (s_val (v_eql rfl rfl) rfl rfl ?_)
    refine g_nil ?_
    refine g_next hK92 ?_
    refine g_cond rfl (fun hc41 => ?_) (fun hc41 => ?_)
    · try simp only [decide_eq_true_eq, decide_eq_false_iff_not, Bool.not_eq_true', Bool.not_eq_false', Bool.not_eq_eq_eq_not, Bool.not_true, Bool.not_false, Bool.and_eq_true, Bool.or_eq_true, Bool.or_eq_false_iff, beq_iff_eq, beq_eq_false_iff_ne, ne_eq, Int.not_lt, Int.not_le, Decidable.not_not] at hc41
      have hk0 : a.k = 0 := by omega
      refine g_seq (fun K93 hK93 => ?_)
      refine g_seq (fun K94 hK94 => ?_)
      refine g_region ?_
      refine g_step rfl (s_fieldAddr ty65 fo65_1 ty46 rfl rfl ?_)
      refine g_step rfl (s_val (v_loadl_part (cs := [_, _, _, _, _, _, _]) ty46 rfl rfl rfl rfl rfl rfl) rfl rfl ?_)
      refine g_step rfl (s_callp rfl rfl rfl (recValid_ok a.rc _ hb) ?_)
      rintro _ rfl
      refine g_step rfl (s_val (v_not rfl) rfl rfl ?_)
      refine g_nil ?_
      refine g_next hK94 ?_
      first | refine g_keep [9, 45] [2, 3, 4, 6, 8, 10] [2, 3, 4, 6, 8, 10] (keep_cons rfl (keep_cons rfl keep_nil)) (lkeep_cons rfl (lkeep_cons rfl (lkeep_cons rfl (lkeep_cons rfl (lkeep_cons rfl (lkeep_cons rfl lkeep_nil)))))) (keep_cons rfl (keep_cons rfl (keep_cons rfl (keep_cons rfl (keep_cons rfl (keep_cons rfl keep_nil)))))) rfl ?_ | refine g_keep [9, 45] [2, 3, 4, 6, 8, 10] [2, 3, 4, 6, 8, 10] rfl rfl rfl rfl ?_
      refine g_cond rfl (fun hc45 => ?_) (fun hc45 => ?_)
      · try simp only [decide_eq_true_eq, decide_eq_false_iff_not, Bool.not_eq_true', Bool.not_eq_false', Bool.not_eq_eq_eq_not, Bool.not_true, Bool.not_false, Bool.and_eq_true, Bool.or_eq_true, Bool.or_eq_false_iff, beq_iff_eq, beq_eq_false_iff_ne, ne_eq, Int.not_lt, Int.not_le, Decidable.not_not] at hc45
        refine g_seq (fun K95 hK95 => ?_)
        refine g_region ?_
        have hR : doL me room l a = (l, 0) := by rw [doL, if_pos hk0, joinT]; exact if_pos (by simp_all)
        refine g_step rfl (s_val (by first | exact v_loadl_all ty61 rfl rfl rfl rfl rfl | exact v_loadl_part (cs := [_, _, _]) ty61 rfl rfl rfl rfl rfl rfl) rfl rfl ?_)
        refine g_step rfl (s_store_all ty61 rfl rfl rfl rfl rfl rfl ?_)
        refine g_step rfl (s_val (v_assign rfl) rfl rfl ?_)
        refine g_nil ?_
        refine g_next hK95 ?_
        refine g_ret ?_
        refine g_then_ret ?_
        refine g_then_ret ?_
        refine g_end2 (.inl rfl) Try.results30 (.agg ty61 rfl rfl rfl rfl rfl) (.tmp rfl) [] (ASub.refl _) (AHeap.sub_refl _) (fun p hp => by cases hp) ⟨rfl, ?_⟩
        first | (rw [hR]; rfl; done) | (rw [hR]; rfl; rfl)
      · try simp only [decide_eq_true_eq, decide_eq_false_iff_not, Bool.not_eq_true', Bool.not_eq_false', Bool.not_eq_eq_eq_not, Bool.not_true, Bool.not_false, Bool.and_eq_true, Bool.or_eq_true, Bool.or_eq_false_iff, beq_iff_eq, beq_eq_false_iff_ne, ne_eq, Int.not_lt, Int.not_le, Decidable.not_not] at hc45
        refine g_skip ?_
        refine g_next hK93 ?_
        refine g_seq (fun K96 hK96 => ?_)
        refine g_seq (fun K97 hK97 => ?_)
        refine g_region ?_
        have hv : ¬ (recValid a.rc = false) := by simp_all
        have hx9 := recValid_ids (r9 hv)
        refine g_step rfl (s_fieldAddr ty65 fo65_1 ty46 rfl rfl ?_)
        refine g_step rfl (s_fieldAddr ty46 fo46_0 ty3 rfl rfl ?_)
        refine g_step rfl (s_val (v_loadl ty3 rfl rfl rfl rfl) rfl rfl ?_)
        refine g_step rfl (s_fieldAddr ty61 fo61_0 ty3 rfl rfl ?_)
        refine g_step rfl (s_val (v_loadl ty3 rfl rfl rfl rfl) rfl rfl ?_)
        refine g_step rfl (s_val (v_eql rfl rfl) rfl rfl ?_)
        refine g_nil ?_
        refine g_next hK97 ?_
        refine g_cond rfl (fun hc52 => ?_) (fun hc52 => ?_)
        · try simp only [decide_eq_true_eq, decide_eq_false_iff_not, Bool.not_eq_true', Bool.not_eq_false', Bool.not_eq_eq_eq_not, Bool.not_true, Bool.not_false, Bool.and_eq_true, Bool.or_eq_true, Bool.or_eq_false_iff, beq_iff_eq, beq_eq_false_iff_ne, ne_eq, Int.not_lt, Int.not_le, Decidable.not_not] at hc52
          have hid : a.rc.id = me := by omega
          refine g_seq (fun K98 hK98 => ?_)
          refine g_region ?_
          refine g_step rfl (s_fieldAddr ty65 fo65_1 ty46 rfl rfl ?_)
          refine g_step rfl (s_fieldAddr ty46 fo46_1 ty3 rfl rfl ?_)
          refine g_step rfl (s_val (v_loadl ty3 rfl rfl rfl rfl) rfl rfl ?_)
          refine g_step rfl (s_fieldAddr ty46 fo46_1 ty3 rfl rfl ?_)
          refine g_step rfl (s_val (v_loadl ty3 rfl rfl rfl rfl) rfl rfl ?_)
          refine g_step rfl (s_val (v_gtr rfl rfl) rfl rfl ?_)
          refine g_step rfl (s_val (v_move rfl) rfl rfl ?_)
          refine g_split 59 rfl (fun hg59 => ?_) (fun hg59 => ?_)
          · try simp only [decide_eq_true_eq, decide_eq_false_iff_not, Bool.not_eq_true', Bool.not_eq_false', Bool.not_eq_eq_eq_not, Bool.not_true, Bool.not_false, Bool.and_eq_true, Bool.or_eq_true, Bool.or_eq_false_iff, beq_iff_eq, beq_eq_false_iff_ne, ne_eq, Int.not_lt, Int.not_le, Decidable.not_not] at hg59
            refine g_step_no (j := 6) (t := 59) rfl rfl rfl rfl rfl rfl rfl ?_
            refine g_step_no (j := 6) (t := 59) rfl rfl rfl rfl rfl rfl rfl ?_
            refine g_step_no (j := 6) (t := 59) rfl rfl rfl rfl rfl rfl rfl ?_
            refine g_step_no (j := 6) (t := 59) rfl rfl rfl rfl rfl rfl rfl ?_
            refine g_step_no (j := 6) (t := 59) rfl rfl rfl rfl rfl rfl rfl ?_
            refine g_step_no (j := 6) (t := 59) rfl rfl rfl rfl rfl rfl rfl ?_
            refine g_step_no (j := 6) (t := 59) rfl rfl rfl rfl rfl rfl rfl ?_
            refine g_step_und (j := 13) (t := 66) rfl rfl rfl rfl rfl rfl ?_
            refine g_step_und (j := 13) (t := 66) rfl rfl rfl rfl rfl rfl ?_
            refine g_step_und (j := 13) (t := 66) rfl rfl rfl rfl rfl rfl ?_
            refine g_step_und (j := 13) (t := 66) rfl rfl rfl rfl rfl rfl ?_
            refine g_step_no (j := 6) (t := 59) rfl rfl rfl rfl rfl rfl rfl ?_
            refine g_step rfl (s_val (v_pick_t rfl rfl) rfl rfl ?_)
            refine g_step rfl (s_val (v_assign rfl) rfl rfl ?_)
            refine g_nil ?_
            refine g_next hK98 ?_
            refine g_seq (fun K99 hK99 => ?_)
            refine g_seq (fun K100 hK100 => ?_)
            refine g_region ?_
            refine g_step rfl (s_val (v_move rfl) rfl rfl ?_)
            refine g_step rfl (s_val (v_not rfl) rfl rfl ?_)
            refine g_step rfl (s_val (v_move rfl) rfl rfl ?_)
            refine g_split 75 rfl (fun hg75 => ?_) (fun hg75 => ?_)
            · try simp only [decide_eq_true_eq, decide_eq_false_iff_not, Bool.not_eq_true', Bool.not_eq_false', Bool.not_eq_eq_eq_not, Bool.not_true, Bool.not_false, Bool.and_eq_true, Bool.or_eq_true, Bool.or_eq_false_iff, beq_iff_eq, beq_eq_false_iff_ne, ne_eq, Int.not_lt, Int.not_le, Decidable.not_not] at hg75
              refine g_step_no (j := 2) (t := 75) rfl rfl rfl rfl rfl rfl rfl ?_
              refine g_step_no (j := 2) (t := 75) rfl rfl rfl rfl rfl rfl rfl ?_
              refine g_step_no (j := 2) (t := 75) rfl rfl rfl rfl rfl rfl rfl ?_
              refine g_step rfl (s_val (v_pick_t rfl rfl) rfl rfl ?_)
              refine g_step rfl (s_val (v_move rfl) rfl rfl ?_)
              refine g_step_no (j := 7) (t := 80) rfl rfl rfl rfl rfl rfl rfl ?_
              refine g_step_no (j := 7) (t := 80) rfl rfl rfl rfl rfl rfl rfl ?_
              refine g_step_no (j := 7) (t := 80) rfl rfl rfl rfl rfl rfl rfl ?_
              refine g_step_no (j := 7) (t := 80) rfl rfl rfl rfl rfl rfl rfl ?_
              refine g_step rfl (s_val (v_pick_t rfl rfl) rfl rfl ?_)
              refine g_nil ?_
              refine g_next hK100 ?_
              first | refine g_keep [85] [2, 3, 4, 6, 10] [2, 3, 4, 6, 10] (keep_cons rfl keep_nil) (lkeep_cons rfl (lkeep_cons rfl (lkeep_cons rfl (lkeep_cons rfl (lkeep_cons rfl lkeep_nil))))) (keep_cons rfl (keep_cons rfl (keep_cons rfl (keep_cons rfl (keep_cons rfl keep_nil))))) rfl ?_ | refine g_keep [85] [2, 3, 4, 6, 10] [2, 3, 4, 6, 10] rfl rfl rfl rfl ?_
              refine g_cond rfl (fun _ => ?_) (fun h => by cases h)
              refine g_seq (fun K101 hK101 => ?_)
              refine g_region ?_
              have hR : doL me room l a = (l, 0) := by first | (rw [doL, if_pos hk0, joinT, if_neg hv, if_pos hid, refT, ho]; exact if_pos (by omega)) | (exfalso; simp_all; done) | (exfalso; simp_all; omega)
              refine g_step rfl (s_val (by first | exact v_loadl_all ty61 rfl rfl rfl rfl rfl | exact v_loadl_part (cs := [_, _, _]) ty61 rfl rfl rfl rfl rfl rfl) rfl rfl ?_)
              refine g_step rfl (s_store_all ty61 rfl rfl rfl rfl rfl rfl ?_)
              refine g_step rfl (s_val (v_assign rfl) rfl rfl ?_)
              refine g_nil ?_
              refine g_next hK101 ?_
              refine g_ret ?_
              refine g_then_ret ?_
              refine g_then_ret ?_
              refine g_then_ret ?_
              refine g_end2 (.inl rfl) Try.results30 (.agg ty61 rfl rfl rfl rfl rfl) (.tmp rfl) [] (ASub.refl _) (AHeap.sub_refl _) (fun p hp => by cases hp) ⟨rfl, ?_⟩
              first | (rw [hR]; rfl; done) | (rw [hR]; rfl; rfl)
            · try simp only [decide_eq_true_eq, decide_eq_false_iff_not, Bool.not_eq_true', Bool.not_eq_false', Bool.not_eq_eq_eq_not, Bool.not_true, Bool.not_false, Bool.and_eq_true, Bool.or_eq_true, Bool.or_eq_false_iff, beq_iff_eq, beq_eq_false_iff_ne, ne_eq, Int.not_lt, Int.not_le, Decidable.not_not] at hg75
              refine g_step_yes (j := 2) (t := 75) rfl rfl rfl rfl (s_fieldAddr ty46 fo46_2 ty3 rfl rfl ?_)
              refine g_step_yes (j := 2) (t := 75) rfl rfl rfl rfl (s_val (v_loadl ty3 rfl rfl rfl rfl) rfl rfl ?_)
              refine g_step_yes (j := 2) (t := 75) rfl rfl rfl rfl (s_val (v_eql rfl rfl) rfl rfl ?_)
              refine g_step rfl (s_val (v_pick_f rfl rfl) rfl rfl ?_)
              refine g_step rfl (s_val (v_move rfl) rfl rfl ?_)
              refine g_split 80 rfl (fun hg80 => ?_) (fun hg80 => ?_)
              · try simp only [decide_eq_true_eq, decide_eq_false_iff_not, Bool.not_eq_true', Bool.not_eq_false', Bool.not_eq_eq_eq_not, Bool.not_true, Bool.not_false, Bool.and_eq_true, Bool.or_eq_true, Bool.or_eq_false_iff, beq_iff_eq, beq_eq_false_iff_ne, ne_eq, Int.not_lt, Int.not_le, Decidable.not_not] at hg80
                refine g_step_no (j := 7) (t := 80) rfl rfl rfl rfl rfl rfl rfl ?_
                refine g_step_no (j := 7) (t := 80) rfl rfl rfl rfl rfl rfl rfl ?_
                refine g_step_no (j := 7) (t := 80) rfl rfl rfl rfl rfl rfl rfl ?_
                refine g_step_no (j := 7) (t := 80) rfl rfl rfl rfl rfl rfl rfl ?_
                refine g_step rfl (s_val (v_pick_t rfl rfl) rfl rfl ?_)
                refine g_nil ?_
                refine g_next hK100 ?_
                first | refine g_keep [85] [2, 3, 4, 6, 10] [2, 3, 4, 6, 10] (keep_cons rfl keep_nil) (lkeep_cons rfl (lkeep_cons rfl (lkeep_cons rfl (lkeep_cons rfl (lkeep_cons rfl lkeep_nil))))) (keep_cons rfl (keep_cons rfl (keep_cons rfl (keep_cons rfl (keep_cons rfl keep_nil))))) rfl ?_ | refine g_keep [85] [2, 3, 4, 6, 10] [2, 3, 4, 6, 10] rfl rfl rfl rfl ?_
                refine g_cond rfl (fun _ => ?_) (fun h => by cases h)
                refine g_seq (fun K102 hK102 => ?_)
                refine g_region ?_
                have hR : doL me room l a = (l, 0) := by first | (rw [doL, if_pos hk0, joinT, if_neg hv, if_pos hid, refT, ho]; exact if_pos (by omega)) | (exfalso; simp_all; done) | (exfalso; simp_all; omega)
                refine g_step rfl (s_val (by first | exact v_loadl_all ty61 rfl rfl rfl rfl rfl | exact v_loadl_part (cs := [_, _, _]) ty61 rfl rfl rfl rfl rfl rfl) rfl rfl ?_)
                refine g_step rfl (s_store_all ty61 rfl rfl rfl rfl rfl rfl ?_)
                refine g_step rfl (s_val (v_assign rfl) rfl rfl ?_)
                refine g_nil ?_
                refine g_next hK102 ?_
                refine g_ret ?_
                refine g_then_ret ?_
                refine g_then_ret ?_
                refine g_then_ret ?_
                refine g_end2 (.inl rfl) Try.results30 (.agg ty61 rfl rfl rfl rfl rfl) (.tmp rfl) [] (ASub.refl _) (AHeap.sub_refl _) (fun p hp => by cases hp) ⟨rfl, ?_⟩
                first | (rw [hR]; rfl; done) | (rw [hR]; rfl; rfl)
              · try simp only [decide_eq_true_eq, decide_eq_false_iff_not, Bool.not_eq_true', Bool.not_eq_false', Bool.not_eq_eq_eq_not, Bool.not_true, Bool.not_false, Bool.and_eq_true, Bool.or_eq_true, Bool.or_eq_false_iff, beq_iff_eq, beq_eq_false_iff_ne, ne_eq, Int.not_lt, Int.not_le, Decidable.not_not] at hg80
                refine g_step_yes (j := 7) (t := 80) rfl rfl rfl rfl (s_fieldAddr ty65 fo65_1 ty46 rfl rfl ?_)
                refine g_step_yes (j := 7) (t := 80) rfl rfl rfl rfl (s_fieldAddr ty46 fo46_1 ty3 rfl rfl ?_)
                refine g_step_yes (j := 7) (t := 80) rfl rfl rfl rfl (s_val (v_loadl ty3 rfl rfl rfl rfl) rfl rfl ?_)
                refine g_step_yes (j := 7) (t := 80) rfl rfl rfl rfl (s_val (v_geq rfl rfl) rfl rfl ?_)
                refine g_step rfl (s_val (v_pick_f rfl rfl) rfl rfl ?_)
                refine g_nil ?_
                refine g_next hK100 ?_
                first | refine g_keep [85] [2, 3, 4, 6, 10] [2, 3, 4, 6, 10] (keep_cons rfl keep_nil) (lkeep_cons rfl (lkeep_cons rfl (lkeep_cons rfl (lkeep_cons rfl (lkeep_cons rfl lkeep_nil))))) (keep_cons rfl (keep_cons rfl (keep_cons rfl (keep_cons rfl (keep_cons rfl keep_nil))))) rfl ?_ | refine g_keep [85] [2, 3, 4, 6, 10] [2, 3, 4, 6, 10] rfl rfl rfl rfl ?_
                refine g_cond rfl (fun hc85 => ?_) (fun hc85 => ?_)
                · try simp only [decide_eq_true_eq, decide_eq_false_iff_not, Bool.not_eq_true', Bool.not_eq_false', Bool.not_eq_eq_eq_not, Bool.not_true, Bool.not_false, Bool.and_eq_true, Bool.or_eq_true, Bool.or_eq_false_iff, beq_iff_eq, beq_eq_false_iff_ne, ne_eq, Int.not_lt, Int.not_le, Decidable.not_not] at hc85
                  refine g_seq (fun K103 hK103 => ?_)
                  refine g_region ?_
                  have hR : doL me room l a = (l, 0) := by first | (rw [doL, if_pos hk0, joinT, if_neg hv, if_pos hid, refT, ho]; exact if_pos (by omega)) | (exfalso; simp_all; done) | (exfalso; simp_all; omega)
                  refine g_step rfl (s_val (by first | exact v_loadl_all ty61 rfl rfl rfl rfl rfl | exact v_loadl_part (cs := [_, _, _]) ty61 rfl rfl rfl rfl rfl rfl) rfl rfl ?_)
                  refine g_step rfl (s_store_all ty61 rfl rfl rfl rfl rfl rfl ?_)
                  refine g_step rfl (s_val (v_assign rfl) rfl rfl ?_)
                  refine g_nil ?_
                  refine g_next hK103 ?_
                  refine g_ret ?_
                  refine g_then_ret ?_
                  refine g_then_ret ?_
                  refine g_then_ret ?_
                  refine g_end2 (.inl rfl) Try.results30 (.agg ty61 rfl rfl rfl rfl rfl) (.tmp rfl) [] (ASub.refl _) (AHeap.sub_refl _) (fun p hp => by cases hp) ⟨rfl, ?_⟩
                  first | (rw [hR]; rfl; done) | (rw [hR]; rfl; rfl)
                · try simp only [decide_eq_true_eq, decide_eq_false_iff_not, Bool.not_eq_true', Bool.not_eq_false', Bool.not_eq_eq_eq_not, Bool.not_true, Bool.not_false, Bool.and_eq_true, Bool.or_eq_true, Bool.or_eq_false_iff, beq_iff_eq, beq_eq_false_iff_ne, ne_eq, Int.not_lt, Int.not_le, Decidable.not_not] at hc85
                  refine g_skip ?_
                  refine g_next hK99 ?_
                  refine g_seq (fun K104 hK104 => ?_)
                  refine g_region ?_
                  have hR : doL me room l a = (rput l (wthInc o (a.rc.inc + 1)), 4) := by first | (rw [doL, if_pos hk0, joinT, if_neg hv, if_pos hid, refT, ho]; exact if_neg (by omega)) | (exfalso; simp_all; done) | (exfalso; simp_all; omega)
                  refine g_step rfl (s_fieldAddr ty65 fo65_1 ty46 rfl rfl ?_)
                  refine g_step rfl (s_fieldAddr ty46 fo46_1 ty3 rfl rfl ?_)
                  refine g_step rfl (s_val (v_loadl ty3 rfl rfl rfl rfl) rfl rfl ?_)
                  refine g_step rfl (s_val (v_add rfl rfl (by omega)) rfl rfl ?_)
                  refine g_step rfl (s_fieldAddr ty46 fo46_1 ty3 rfl rfl ?_)
                  refine g_step rfl (s_store (new := (encR (wthInc o (a.rc.inc + 1)))) ty3 rfl rfl rfl rfl rfl rfl rfl ?_)
                  refine g_nil ?_
                  refine g_next hK104 ?_
                  refine g_seq (fun K105 hK105 => ?_)
                  refine g_region ?_
                  refine g_step rfl (s_fieldAddr ty61 fo61_2 ty22 rfl rfl ?_)
                  refine g_step rfl (s_val (v_loadl ty22 rfl rfl rfl rfl) rfl rfl ?_)
                  refine g_step rfl (s_val (by first | exact v_loadl_all ty46 rfl rfl rfl rfl rfl | exact v_loadl_part (cs := [_, _, _, _, _, _, _]) ty46 rfl rfl rfl rfl rfl rfl) rfl rfl ?_)
                  refine g_step rfl (s_callp rfl rfl rfl (put_ok l (wthInc o (a.rc.inc + 1)) _ _ rfl (by omega) hs (hso)) ?_)
                  rintro _ rfl
                  refine g_step rfl (s_fieldAddr ty61 fo61_2 ty22 rfl rfl ?_)
                  refine g_step rfl (s_store (new := (mdl me room (rput l (wthInc o (a.rc.inc + 1))))) ty22 rfl rfl rfl rfl rfl rfl rfl ?_)
                  refine g_nil ?_
                  refine g_next hK105 ?_
                  refine g_seq (fun K106 hK106 => ?_)
                  refine g_region ?_
                  refine g_step rfl (s_val (by first | exact v_loadl_all ty61 rfl rfl rfl rfl rfl | exact v_loadl_part (cs := [_, _, _]) ty61 rfl rfl rfl rfl rfl rfl) rfl rfl ?_)
                  refine g_step rfl (s_store_all ty61 rfl rfl rfl rfl rfl rfl ?_)
                  refine g_step rfl (s_val (v_assign rfl) rfl rfl ?_)
                  refine g_nil ?_
                  refine g_next hK106 ?_
                  refine g_ret ?_
                  refine g_then_ret ?_
                  refine g_then_ret ?_
                  refine g_end2 (.inl rfl) Try.results30 (.agg ty61 rfl rfl rfl rfl rfl) (.tmp rfl) [] (ASub.refl _) (AHeap.sub_refl _) (fun p hp => by cases hp) ⟨rfl, ?_⟩
                  first | (rw [hR]; rfl; done) | (rw [hR]; rfl; rfl)
          · try simp only [decide_eq_true_eq, decide_eq_false_iff_not, Bool.not_eq_true', Bool.not_eq_false', Bool.not_eq_eq_eq_not, Bool.not_true, Bool.not_false, Bool.and_eq_true, Bool.or_eq_true, Bool.or_eq_false_iff, beq_iff_eq, beq_eq_false_iff_ne, ne_eq, Int.not_lt, Int.not_le, Decidable.not_not] at hg59
            refine g_step_yes (j := 6) (t := 59) rfl rfl rfl rfl (s_fieldAddr ty65 fo65_1 ty46 rfl rfl ?_)
            refine g_step_yes (j := 6) (t := 59) rfl rfl rfl rfl (s_fieldAddr ty46 fo46_1 ty3 rfl rfl ?_)
            refine g_step_yes (j := 6) (t := 59) rfl rfl rfl rfl (s_val (v_loadl ty3 rfl rfl rfl rfl) rfl rfl ?_)
            refine g_step_yes (j := 6) (t := 59) rfl rfl rfl rfl (s_fieldAddr ty46 fo46_1 ty3 rfl rfl ?_)
            refine g_step_yes (j := 6) (t := 59) rfl rfl rfl rfl (s_val (v_loadl ty3 rfl rfl rfl rfl) rfl rfl ?_)
            refine g_step_yes (j := 6) (t := 59) rfl rfl rfl rfl (s_val (v_eql rfl rfl) rfl rfl ?_)
            refine g_step_yes (j := 6) (t := 59) rfl rfl rfl rfl (s_val (v_move rfl) rfl rfl ?_)
            refine g_split 66 rfl (fun hg66 => ?_) (fun hg66 => ?_)
            · try simp only [decide_eq_true_eq, decide_eq_false_iff_not, Bool.not_eq_true', Bool.not_eq_false', Bool.not_eq_eq_eq_not, Bool.not_true, Bool.not_false, Bool.and_eq_true, Bool.or_eq_true, Bool.or_eq_false_iff, beq_iff_eq, beq_eq_false_iff_ne, ne_eq, Int.not_lt, Int.not_le, Decidable.not_not] at hg66
              refine g_step_yes (j := 13) (t := 66) rfl rfl rfl rfl (s_fieldAddr ty65 fo65_1 ty46 rfl rfl ?_)
              refine g_step_yes (j := 13) (t := 66) rfl rfl rfl rfl (s_fieldAddr ty46 fo46_2 ty3 rfl rfl ?_)
              refine g_step_yes (j := 13) (t := 66) rfl rfl rfl rfl (s_val (v_loadl ty3 rfl rfl rfl rfl) rfl rfl ?_)
              refine g_step_yes (j := 13) (t := 66) rfl rfl rfl rfl (s_val (v_neq rfl rfl) rfl rfl ?_)
              refine g_step_yes (j := 6) (t := 59) rfl rfl rfl rfl (s_val (v_pick_t rfl rfl) rfl rfl ?_)
              refine g_step rfl (s_val (v_pick_f rfl rfl) rfl rfl ?_)
              refine g_step rfl (s_val (v_assign rfl) rfl rfl ?_)
              refine g_nil ?_
              refine g_next hK98 ?_
              refine g_seq (fun K107 hK107 => ?_)
              refine g_seq (fun K108 hK108 => ?_)
              refine g_region ?_
              refine g_step rfl (s_val (v_move rfl) rfl rfl ?_)
              refine g_step rfl (s_val (v_not rfl) rfl rfl ?_)
              refine g_step rfl (s_val (v_move rfl) rfl rfl ?_)
              refine g_split 75 rfl (fun hg75 => ?_) (fun hg75 => ?_)
              · try simp only [decide_eq_true_eq, decide_eq_false_iff_not, Bool.not_eq_true', Bool.not_eq_false', Bool.not_eq_eq_eq_not, Bool.not_true, Bool.not_false, Bool.and_eq_true, Bool.or_eq_true, Bool.or_eq_false_iff, beq_iff_eq, beq_eq_false_iff_ne, ne_eq, Int.not_lt, Int.not_le, Decidable.not_not] at hg75
                refine g_step_no (j := 2) (t := 75) rfl rfl rfl rfl rfl rfl rfl ?_
                refine g_step_no (j := 2) (t := 75) rfl rfl rfl rfl rfl rfl rfl ?_
                refine g_step_no (j := 2) (t := 75) rfl rfl rfl rfl rfl rfl rfl ?_
                refine g_step rfl (s_val (v_pick_t rfl rfl) rfl rfl ?_)
                refine g_step rfl (s_val (v_move rfl) rfl rfl ?_)
                refine g_step_no (j := 7) (t := 80) rfl rfl rfl rfl rfl rfl rfl ?_
                refine g_step_no (j := 7) (t := 80) rfl rfl rfl rfl rfl rfl rfl ?_
                refine g_step_no (j := 7) (t := 80) rfl rfl rfl rfl rfl rfl rfl ?_
                refine g_step_no (j := 7) (t := 80) rfl rfl rfl rfl rfl rfl rfl ?_
                refine g_step rfl (s_val (v_pick_t rfl rfl) rfl rfl ?_)
                refine g_nil ?_
                refine g_next hK108 ?_
                first | refine g_keep [85] [2, 3, 4, 6, 10] [2, 3, 4, 6, 10] (keep_cons rfl keep_nil) (lkeep_cons rfl (lkeep_cons rfl (lkeep_cons rfl (lkeep_cons rfl (lkeep_cons rfl lkeep_nil))))) (keep_cons rfl (keep_cons rfl (keep_cons rfl (keep_cons rfl (keep_cons rfl keep_nil))))) rfl ?_ | refine g_keep [85] [2, 3, 4, 6, 10] [2, 3, 4, 6, 10] rfl rfl rfl rfl ?_
                refine g_cond rfl (fun _ => ?_) (fun h => by cases h)
                refine g_seq (fun K109 hK109 => ?_)
                refine g_region ?_
                have hR : doL me room l a = (l, 0) := by first | (rw [doL, if_pos hk0, joinT, if_neg hv, if_pos hid, refT, ho]; exact if_pos (by omega)) | (exfalso; simp_all; done) | (exfalso; simp_all; omega)
                refine g_step rfl (s_val (by first | exact v_loadl_all ty61 rfl rfl rfl rfl rfl | exact v_loadl_part (cs := [_, _, _]) ty61 rfl rfl rfl rfl rfl rfl) rfl rfl ?_)
                refine g_step rfl (s_store_all ty61 rfl rfl rfl rfl rfl rfl ?_)
                refine g_step rfl (s_val (v_assign rfl) rfl rfl ?_)
                refine g_nil ?_
                refine g_next hK109 ?_
                refine g_ret ?_
                refine g_then_ret ?_
                refine g_then_ret ?_
                refine g_then_ret ?_
                refine g_end2 (.inl rfl) Try.results30 (.agg ty61 rfl rfl rfl rfl rfl) (.tmp rfl) [] (ASub.refl _) (AHeap.sub_refl _) (fun p hp => by cases hp) ⟨rfl, ?_⟩
                first | (rw [hR]; rfl; done) | (rw [hR]; rfl; rfl)
              · try simp only [decide_eq_true_eq, decide_eq_false_iff_not, Bool.not_eq_true', Bool.not_eq_false', Bool.not_eq_eq_eq_not, Bool.not_true, Bool.not_false, Bool.and_eq_true, Bool.or_eq_true, Bool.or_eq_false_iff, beq_iff_eq, beq_eq_false_iff_ne, ne_eq, Int.not_lt, Int.not_le, Decidable.not_not] at hg75
                refine g_step_yes (j := 2) (t := 75) rfl rfl rfl rfl (s_fieldAddr ty46 fo46_2 ty3 rfl rfl ?_)
                refine g_step_yes (j := 2) (t := 75) rfl rfl rfl rfl (s_val (v_loadl ty3 rfl rfl rfl rfl) rfl rfl ?_)
                refine g_step_yes (j := 2) (t := 75) rfl rfl rfl rfl (s_val (v_eql rfl rfl) rfl rfl ?_)
                refine g_step rfl (s_val (v_pick_f rfl rfl) rfl rfl ?_)
                refine g_step rfl (s_val (v_move rfl) rfl rfl ?_)
                refine g_split 80 rfl (fun hg80 => ?_) (fun hg80 => ?_)
                · try simp only [decide_eq_true_eq, decide_eq_false_iff_not, Bool.not_eq_true', Bool.not_eq_false', Bool.not_eq_eq_eq_not, Bool.not_true, Bool.not_false, Bool.and_eq_true, Bool.or_eq_true, Bool.or_eq_false_iff, beq_iff_eq, beq_eq_false_iff_ne, ne_eq, Int.not_lt, Int.not_le, Decidable.not_not] at hg80
                  refine g_step_no (j := 7) (t := 80) rfl rfl rfl rfl rfl rfl rfl ?_
                  refine g_step_no (j := 7) (t := 80) rfl rfl rfl rfl rfl rfl rfl ?_
                  refine g_step_no (j := 7) (t := 80) rfl rfl rfl rfl rfl rfl rfl ?_
                  refine g_step_no (j := 7) (t := 80) rfl rfl rfl rfl rfl rfl rfl ?_
                  refine g_step rfl (s_val (v_pick_t rfl rfl) rfl rfl ?_)
                  refine g_nil ?_
                  refine g_next hK108 ?_
                  first | refine g_keep [85] [2, 3, 4, 6, 10] [2, 3, 4, 6, 10] (keep_cons rfl keep_nil) (lkeep_cons rfl (lkeep_cons rfl (lkeep_cons rfl (lkeep_cons rfl (lkeep_cons rfl lkeep_nil))))) (keep_cons rfl (keep_cons rfl (keep_cons rfl (keep_cons rfl (keep_cons rfl keep_nil))))) rfl ?_ | refine g_keep [85] [2, 3, 4, 6, 10] [2, 3, 4, 6, 10] rfl rfl rfl rfl ?_
                  refine g_cond rfl (fun _ => ?_) (fun h => by cases h)
                  refine g_seq (fun K110 hK110 => ?_)
                  refine g_region ?_
                  have hR : doL me room l a = (l, 0) := by first | (rw [doL, if_pos hk0, joinT, if_neg hv, if_pos hid, refT, ho]; exact if_pos (by omega)) | (exfalso; simp_all; done) | (exfalso; simp_all; omega)
                  refine g_step rfl (s_val (by first | exact v_loadl_all ty61 rfl rfl rfl rfl rfl | exact v_loadl_part (cs := [_, _, _]) ty61 rfl rfl rfl rfl rfl rfl) rfl rfl ?_)
                  refine g_step rfl (s_store_all ty61 rfl rfl rfl rfl rfl rfl ?_)
                  refine g_step rfl (s_val (v_assign rfl) rfl rfl ?_)
                  refine g_nil ?_
                  refine g_next hK110 ?_
                  refine g_ret ?_
                  refine g_then_ret ?_
                  refine g_then_ret ?_
                  refine g_then_ret ?_
                  refine g_end2 (.inl rfl) Try.results30 (.agg ty61 rfl rfl rfl rfl rfl) (.tmp rfl) [] (ASub.refl _) (AHeap.sub_refl _) (fun p hp => by cases hp) ⟨rfl, ?_⟩
                  first | (rw [hR]; rfl; done) | (rw [hR]; rfl; rfl)
                · try simp only [decide_eq_true_eq, decide_eq_false_iff_not, Bool.not_eq_true', Bool.not_eq_false', Bool.not_eq_eq_eq_not, Bool.not_true, Bool.not_false, Bool.and_eq_true, Bool.or_eq_true, Bool.or_eq_false_iff, beq_iff_eq, beq_eq_false_iff_ne, ne_eq, Int.not_lt, Int.not_le, Decidable.not_not] at hg80
                  refine g_step_yes (j := 7) (t := 80) rfl rfl rfl rfl (s_fieldAddr ty65 fo65_1 ty46 rfl rfl ?_)
                  refine g_step_yes (j := 7) (t := 80) rfl rfl rfl rfl (s_fieldAddr ty46 fo46_1 ty3 rfl rfl ?_)
                  refine g_step_yes (j := 7) (t := 80) rfl rfl rfl rfl (s_val (v_loadl ty3 rfl rfl rfl rfl) rfl rfl ?_)
                  refine g_step_yes (j := 7) (t := 80) rfl rfl rfl rfl (s_val (v_geq rfl rfl) rfl rfl ?_)
                  refine g_step rfl (s_val (v_pick_f rfl rfl) rfl rfl ?_)
                  refine g_nil ?_
                  refine g_next hK108 ?_
                  first | refine g_keep [85] [2, 3, 4, 6, 10] [2, 3, 4, 6, 10] (keep_cons rfl keep_nil) (lkeep_cons rfl (lkeep_cons rfl (lkeep_cons rfl (lkeep_cons rfl (lkeep_cons rfl lkeep_nil))))) (keep_cons rfl (keep_cons rfl (keep_cons rfl (keep_cons rfl (keep_cons rfl keep_nil))))) rfl ?_ | refine g_keep [85] [2, 3, 4, 6, 10] [2, 3, 4, 6, 10] rfl rfl rfl rfl ?_
                  refine g_cond rfl (fun hc85 => ?_) (fun hc85 => ?_)
                  · try simp only [decide_eq_true_eq, decide_eq_false_iff_not, Bool.not_eq_true', Bool.not_eq_false', Bool.not_eq_eq_eq_not, Bool.not_true, Bool.not_false, Bool.and_eq_true, Bool.or_eq_true, Bool.or_eq_false_iff, beq_iff_eq, beq_eq_false_iff_ne, ne_eq, Int.not_lt, Int.not_le, Decidable.not_not] at hc85
                    refine g_seq (fun K111 hK111 => ?_)
                    refine g_region ?_
                    have hR : doL me room l a = (l, 0) := by first | (rw [doL, if_pos hk0, joinT, if_neg hv, if_pos hid, refT, ho]; exact if_pos (by omega)) | (exfalso; simp_all; done) | (exfalso; simp_all; omega)
                    refine g_step rfl (s_val (by first | exact v_loadl_all ty61 rfl rfl rfl rfl rfl | exact v_loadl_part (cs := [_, _, _]) ty61 rfl rfl rfl rfl rfl rfl) rfl rfl ?_)
                    refine g_step rfl (s_store_all ty61 rfl rfl rfl rfl rfl rfl ?_)
                    refine g_step rfl (s_val (v_assign rfl) rfl rfl ?_)
                    refine g_nil ?_
                    refine g_next hK111 ?_
                    refine g_ret ?_
                    refine g_then_ret ?_
                    refine g_then_ret ?_
                    refine g_then_ret ?_
                    refine g_end2 (.inl rfl) Try.results30 (.agg ty61 rfl rfl rfl rfl rfl) (.tmp rfl) [] (ASub.refl _) (AHeap.sub_refl _) (fun p hp => by cases hp) ⟨rfl, ?_⟩
                    first | (rw [hR]; rfl; done) | (rw [hR]; rfl; rfl)
                  · try simp only [decide_eq_true_eq, decide_eq_false_iff_not, Bool.not_eq_true', Bool.not_eq_false', Bool.not_eq_eq_eq_not, Bool.not_true, Bool.not_false, Bool.and_eq_true, Bool.or_eq_true, Bool.or_eq_false_iff, beq_iff_eq, beq_eq_false_iff_ne, ne_eq, Int.not_lt, Int.not_le, Decidable.not_not] at hc85
                    refine g_skip ?_
                    refine g_next hK107 ?_
                    refine g_seq (fun K112 hK112 => ?_)
                    refine g_region ?_
                    have hR : doL me room l a = (rput l (wthInc o (a.rc.inc + 1)), 4) := by first | (rw [doL, if_pos hk0, joinT, if_neg hv, if_pos hid, refT, ho]; exact if_neg (by omega)) | (exfalso; simp_all; done) | (exfalso; simp_all; omega)
                    refine g_step rfl (s_fieldAddr ty65 fo65_1 ty46 rfl rfl ?_)
                    refine g_step rfl (s_fieldAddr ty46 fo46_1 ty3 rfl rfl ?_)
                    refine g_step rfl (s_val (v_loadl ty3 rfl rfl rfl rfl) rfl rfl ?_)
                    refine g_step rfl (s_val (v_add rfl rfl (by omega)) rfl rfl ?_)
                    refine g_step rfl (s_fieldAddr ty46 fo46_1 ty3 rfl rfl ?_)
                    refine g_step rfl (s_store (new := (encR (wthInc o (a.rc.inc + 1)))) ty3 rfl rfl rfl rfl rfl rfl rfl ?_)
                    refine g_nil ?_
                    refine g_next hK112 ?_
                    refine g_seq (fun K113 hK113 => ?_)
                    refine g_region ?_
                    refine g_step rfl (s_fieldAddr ty61 fo61_2 ty22 rfl rfl ?_)
                    refine g_step rfl (s_val (v_loadl ty22 rfl rfl rfl rfl) rfl rfl ?_)
                    refine g_step rfl (s_val (by first | exact v_loadl_all ty46 rfl rfl rfl rfl rfl | exact v_loadl_part (cs := [_, _, _, _, _, _, _]) ty46 rfl rfl rfl rfl rfl rfl) rfl rfl ?_)
                    refine g_step rfl (s_callp rfl rfl rfl (put_ok l (wthInc o (a.rc.inc + 1)) _ _ rfl (by omega) hs (hso)) ?_)
                    rintro _ rfl
                    refine g_step rfl (s_fieldAddr ty61 fo61_2 ty22 rfl rfl ?_)
                    refine g_step rfl (s_store (new := (mdl me room (rput l (wthInc o (a.rc.inc + 1))))) ty22 rfl rfl rfl rfl rfl rfl rfl ?_)
                    refine g_nil ?_
                    refine g_next hK113 ?_
                    refine g_seq (fun K114 hK114 => ?_)
                    refine g_region ?_
                    refine g_step rfl (s_val (by first | exact v_loadl_all ty61 rfl rfl rfl rfl rfl | exact v_loadl_part (cs := [_, _, _]) ty61 rfl rfl rfl rfl rfl rfl) rfl rfl ?_)
                    refine g_step rfl (s_store_all ty61 rfl rfl rfl rfl rfl rfl ?_)
                    refine g_step rfl (s_val (v_assign rfl) rfl rfl ?_)
                    refine g_nil ?_
                    refine g_next hK114 ?_
                    refine g_ret ?_
                    refine g_then_ret ?_
                    refine g_then_ret ?_
                    refine g_end2 (.inl rfl) Try.results30 (.agg ty61 rfl rfl rfl rfl rfl) (.tmp rfl) [] (ASub.refl _) (AHeap.sub_refl _) (fun p hp => by cases hp) ⟨rfl, ?_⟩
                    first | (rw [hR]; rfl; done) | (rw [hR]; rfl; rfl)
            · try simp only [decide_eq_true_eq, decide_eq_false_iff_not, Bool.not_eq_true', Bool.not_eq_false', Bool.not_eq_eq_eq_not, Bool.not_true, Bool.not_false, Bool.and_eq_true, Bool.or_eq_true, Bool.or_eq_false_iff, beq_iff_eq, beq_eq_false_iff_ne, ne_eq, Int.not_lt, Int.not_le, Decidable.not_not] at hg66
              refine g_step_no (j := 13) (t := 66) rfl rfl rfl rfl rfl rfl rfl ?_
              refine g_step_no (j := 13) (t := 66) rfl rfl rfl rfl rfl rfl rfl ?_
              refine g_step_no (j := 13) (t := 66) rfl rfl rfl rfl rfl rfl rfl ?_
              refine g_step_no (j := 13) (t := 66) rfl rfl rfl rfl rfl rfl rfl ?_
              refine g_step_yes (j := 6) (t := 59) rfl rfl rfl rfl (s_val (v_pick_f rfl rfl) rfl rfl ?_)
              refine g_step rfl (s_val (v_pick_f rfl rfl) rfl rfl ?_)
              refine g_step rfl (s_val (v_assign rfl) rfl rfl ?_)
              refine g_nil ?_
              refine g_next hK98 ?_
              refine g_seq (fun K115 hK115 => ?_)
              refine g_seq (fun K116 hK116 => ?_)
              refine g_region ?_
              refine g_step rfl (s_val (v_move rfl) rfl rfl ?_)
              refine g_step rfl (s_val (v_not rfl) rfl rfl ?_)
              refine g_step rfl (s_val (v_move rfl) rfl rfl ?_)
              refine g_split 75 rfl (fun hg75 => ?_) (fun hg75 => ?_)
              · try simp only [decide_eq_true_eq, decide_eq_false_iff_not, Bool.not_eq_true', Bool.not_eq_false', Bool.not_eq_eq_eq_not, Bool.not_true, Bool.not_false, Bool.and_eq_true, Bool.or_eq_true, Bool.or_eq_false_iff, beq_iff_eq, beq_eq_false_iff_ne, ne_eq, Int.not_lt, Int.not_le, Decidable.not_not] at hg75
                refine g_step_no (j := 2) (t := 75) rfl rfl rfl rfl rfl rfl rfl ?_
                refine g_step_no (j := 2) (t := 75) rfl rfl rfl rfl rfl rfl rfl ?_
                refine g_step_no (j := 2) (t := 75) rfl rfl rfl rfl rfl rfl rfl ?_
                refine g_step rfl (s_val (v_pick_t rfl rfl) rfl rfl ?_)
                refine g_step rfl (s_val (v_move rfl) rfl rfl ?_)
                refine g_step_no (j := 7) (t := 80) rfl rfl rfl rfl rfl rfl rfl ?_
                refine g_step_no (j := 7) (t := 80) rfl rfl rfl rfl rfl rfl rfl ?_
                refine g_step_no (j := 7) (t := 80) rfl rfl rfl rfl rfl rfl rfl ?_
                refine g_step_no (j := 7) (t := 80) rfl rfl rfl rfl rfl rfl rfl ?_
                refine g_step rfl (s_val (v_pick_t rfl rfl) rfl rfl ?_)
                refine g_nil ?_
                refine g_next hK116 ?_
                first | refine g_keep [85] [2, 3, 4, 6, 10] [2, 3, 4, 6, 10] (keep_cons rfl keep_nil) (lkeep_cons rfl (lkeep_cons rfl (lkeep_cons rfl (lkeep_cons rfl (lkeep_cons rfl lkeep_nil))))) (keep_cons rfl (keep_cons rfl (keep_cons rfl (keep_cons rfl (keep_cons rfl keep_nil))))) rfl ?_ | refine g_keep [85] [2, 3, 4, 6, 10] [2, 3, 4, 6, 10] rfl rfl rfl rfl ?_
                refine g_cond rfl (fun _ => ?_) (fun h => by cases h)
                refine g_seq (fun K117 hK117 => ?_)
                refine g_region ?_
                have hR : doL me room l a = (l, 0) := by first | (rw [doL, if_pos hk0, joinT, if_neg hv, if_pos hid, refT, ho]; exact if_pos (by omega)) | (exfalso; simp_all; done) | (exfalso; simp_all; omega)
                refine g_step rfl (s_val (by first | exact v_loadl_all ty61 rfl rfl rfl rfl rfl | exact v_loadl_part (cs := [_, _, _]) ty61 rfl rfl rfl rfl rfl rfl) rfl rfl ?_)
                refine g_step rfl (s_store_all ty61 rfl rfl rfl rfl rfl rfl ?_)
                refine g_step rfl (s_val (v_assign rfl) rfl rfl ?_)
                refine g_nil ?_
                refine g_next hK117 ?_
                refine g_ret ?_
                refine g_then_ret ?_
                refine g_then_ret ?_
                refine g_then_ret ?_
                refine g_end2 (.inl rfl) Try.results30 (.agg ty61 rfl rfl rfl rfl rfl) (.tmp rfl) [] (ASub.refl _) (AHeap.sub_refl _) (fun p hp => by cases hp) ⟨rfl, ?_⟩
                first | (rw [hR]; rfl; done) | (rw [hR]; rfl; rfl)
              · try simp only [decide_eq_true_eq, decide_eq_false_iff_not, Bool.not_eq_true', Bool.not_eq_false', Bool.not_eq_eq_eq_not, Bool.not_true, Bool.not_false, Bool.and_eq_true, Bool.or_eq_true, Bool.or_eq_false_iff, beq_iff_eq, beq_eq_false_iff_ne, ne_eq, Int.not_lt, Int.not_le, Decidable.not_not] at hg75
                refine g_step_yes (j := 2) (t := 75) rfl rfl rfl rfl (s_fieldAddr ty46 fo46_2 ty3 rfl rfl ?_)
                refine g_step_yes (j := 2) (t := 75) rfl rfl rfl rfl (s_val (v_loadl ty3 rfl rfl rfl rfl) rfl rfl ?_)
                refine g_step_yes (j := 2) (t := 75) rfl rfl rfl rfl (s_val (v_eql rfl rfl) rfl rfl ?_)
                refine g_step rfl (s_val (v_pick_f rfl rfl) rfl rfl ?_)
                refine g_step rfl (s_val (v_move rfl) rfl rfl ?_)
                refine g_split 80 rfl (fun hg80 => ?_) (fun hg80 => ?_)
                · try simp only [decide_eq_true_eq, decide_eq_false_iff_not, Bool.not_eq_true', Bool.not_eq_false', Bool.not_eq_eq_eq_not, Bool.not_true, Bool.not_false, Bool.and_eq_true, Bool.or_eq_true, Bool.or_eq_false_iff, beq_iff_eq, beq_eq_false_iff_ne, ne_eq, Int.not_lt, Int.not_le, Decidable.not_not] at hg80
                  refine g_step_no (j := 7) (t := 80) rfl rfl rfl rfl rfl rfl rfl ?_
                  refine g_step_no (j := 7) (t := 80) rfl rfl rfl rfl rfl rfl rfl ?_
                  refine g_step_no (j := 7) (t := 80) rfl rfl rfl rfl rfl rfl rfl ?_
                  refine g_step_no (j := 7) (t := 80) rfl rfl rfl rfl rfl rfl rfl ?_
                  refine g_step rfl (s_val (v_pick_t rfl rfl) rfl rfl ?_)
                  refine g_nil ?_
                  refine g_next hK116 ?_
                  first | refine g_keep [85] [2, 3, 4, 6, 10] [2, 3, 4, 6, 10] (keep_cons rfl keep_nil) (lkeep_cons rfl (lkeep_cons rfl (lkeep_cons rfl (lkeep_cons rfl (lkeep_cons rfl lkeep_nil))))) (keep_cons rfl (keep_cons rfl (keep_cons rfl (keep_cons rfl (keep_cons rfl keep_nil))))) rfl ?_ | refine g_keep [85] [2, 3, 4, 6, 10] [2, 3, 4, 6, 10] rfl rfl rfl rfl ?_
                  refine g_cond rfl (fun _ => ?_) (fun h => by cases h)
                  refine g_seq (fun K118 hK118 => ?_)
                  refine g_region ?_
                  have hR : doL me room l a = (l, 0) := by first | (rw [doL, if_pos hk0, joinT, if_neg hv, if_pos hid, refT, ho]; exact if_pos (by omega)) | (exfalso; simp_all; done) | (exfalso; simp_all; omega)
                  refine g_step rfl (s_val (by first | exact v_loadl_all ty61 rfl rfl rfl rfl rfl | exact v_loadl_part (cs := [_, _, _]) ty61 rfl rfl rfl rfl rfl rfl) rfl rfl ?_)
                  refine g_step rfl (s_store_all ty61 rfl rfl rfl rfl rfl rfl ?_)
                  refine g_step rfl (s_val (v_assign rfl) rfl rfl ?_)
                  refine g_nil ?_
                  refine g_next hK118 ?_
                  refine g_ret ?_
                  refine g_then_ret ?_
                  refine g_then_ret ?_
                  refine g_then_ret ?_
                  refine g_end2 (.inl rfl) Try.results30 (.agg ty61 rfl rfl rfl rfl rfl) (.tmp rfl) [] (ASub.refl _) (AHeap.sub_refl _) (fun p hp => by cases hp) ⟨rfl, ?_⟩
                  first | (rw [hR]; rfl; done) | (rw [hR]; rfl; rfl)
                · try simp only [decide_eq_true_eq, decide_eq_false_iff_not, Bool.not_eq_true', Bool.not_eq_false', Bool.not_eq_eq_eq_not, Bool.not_true, Bool.not_false, Bool.and_eq_true, Bool.or_eq_true, Bool.or_eq_false_iff, beq_iff_eq, beq_eq_false_iff_ne, ne_eq, Int.not_lt, Int.not_le, Decidable.not_not] at hg80
                  refine g_step_yes (j := 7) (t := 80) rfl rfl rfl rfl (s_fieldAddr ty65 fo65_1 ty46 rfl rfl ?_)
                  refine g_step_yes (j := 7) (t := 80) rfl rfl rfl rfl (s_fieldAddr ty46 fo46_1 ty3 rfl rfl ?_)
                  refine g_step_yes (j := 7) (t := 80) rfl rfl rfl rfl (s_val (v_loadl ty3 rfl rfl rfl rfl) rfl rfl ?_)
                  refine g_step_yes (j := 7) (t := 80) rfl rfl rfl rfl (s_val (v_geq rfl rfl) rfl rfl ?_)
                  refine g_step rfl (s_val (v_pick_f rfl rfl) rfl rfl ?_)
                  refine g_nil ?_
                  refine g_next hK116 ?_
                  first | refine g_keep [85] [2, 3, 4, 6, 10] [2, 3, 4, 6, 10] (keep_cons rfl keep_nil) (lkeep_cons rfl (lkeep_cons rfl (lkeep_cons rfl (lkeep_cons rfl (lkeep_cons rfl lkeep_nil))))) (keep_cons rfl (keep_cons rfl (keep_cons rfl (keep_cons rfl (keep_cons rfl keep_nil))))) rfl ?_ | refine g_keep [85] [2, 3, 4, 6, 10] [2, 3, 4, 6, 10] rfl rfl rfl rfl ?_
                  refine g_cond rfl (fun hc85 => ?_) (fun hc85 => ?_)
                  · try simp only [decide_eq_true_eq, decide_eq_false_iff_not, Bool.not_eq_true', Bool.not_eq_false', Bool.not_eq_eq_eq_not, Bool.not_true, Bool.not_false, Bool.and_eq_true, Bool.or_eq_true, Bool.or_eq_false_iff, beq_iff_eq, beq_eq_false_iff_ne, ne_eq, Int.not_lt, Int.not_le, Decidable.not_not] at hc85
                    refine g_seq (fun K119 hK119 => ?_)
                    refine g_region ?_
                    have hR : doL me room l a = (l, 0) := by first | (rw [doL, if_pos hk0, joinT, if_neg hv, if_pos hid, refT, ho]; exact if_pos (by omega)) | (exfalso; simp_all; done) | (exfalso; simp_all; omega)
                    refine g_step rfl (s_val (by first | exact v_loadl_all ty61 rfl rfl rfl rfl rfl | exact v_loadl_part (cs := [_, _, _]) ty61 rfl rfl rfl rfl rfl rfl) rfl rfl ?_)
                    refine g_step rfl (s_store_all ty61 rfl rfl rfl rfl rfl rfl ?_)
                    refine g_step rfl (s_val (v_assign rfl) rfl rfl ?_)
                    refine g_nil ?_
                    refine g_next hK119 ?_
                    refine g_ret ?_
                    refine g_then_ret ?_
                    refine g_then_ret ?_
                    refine g_then_ret ?_
                    refine g_end2 (.inl rfl) Try.results30 (.agg ty61 rfl rfl rfl rfl rfl) (.tmp rfl) [] (ASub.refl _) (AHeap.sub_refl _) (fun p hp => by cases hp) ⟨rfl, ?_⟩
                    first | (rw [hR]; rfl; done) | (rw [hR]; rfl; rfl)
                  · try simp only [decide_eq_true_eq, decide_eq_false_iff_not, Bool.not_eq_true', Bool.not_eq_false', Bool.not_eq_eq_eq_not, Bool.not_true, Bool.not_false, Bool.and_eq_true, Bool.or_eq_true, Bool.or_eq_false_iff, beq_iff_eq, beq_eq_false_iff_ne, ne_eq, Int.not_lt, Int.not_le, Decidable.not_not] at hc85
                    refine g_skip ?_
                    refine g_next hK115 ?_
                    refine g_seq (fun K120 hK120 => ?_)
                    refine g_region ?_
                    have hR : doL me room l a = (rput l (wthInc o (a.rc.inc + 1)), 4) := by first | (rw [doL, if_pos hk0, joinT, if_neg hv, if_pos hid, refT, ho]; exact if_neg (by omega)) | (exfalso; simp_all; done) | (exfalso; simp_all; omega)
                    refine g_step rfl (s_fieldAddr ty65 fo65_1 ty46 rfl rfl ?_)
                    refine g_step rfl (s_fieldAddr ty46 fo46_1 ty3 rfl rfl ?_)
                    refine g_step rfl (s_val (v_loadl ty3 rfl rfl rfl rfl) rfl rfl ?_)
                    refine g_step rfl (s_val (v_add rfl rfl (by omega)) rfl rfl ?_)
                    refine g_step rfl (s_fieldAddr ty46 fo46_1 ty3 rfl rfl ?_)
                    refine g_step rfl (s_store (new := (encR (wthInc o (a.rc.inc + 1)))) ty3 rfl rfl rfl rfl rfl rfl rfl ?_)
                    refine g_nil ?_
                    refine g_next hK120 ?_
                    refine g_seq (fun K121 hK121 => ?_)
                    refine g_region ?_
                    refine g_step rfl (s_fieldAddr ty61 fo61_2 ty22 rfl rfl ?_)
                    refine g_step rfl (s_val (v_loadl ty22 rfl rfl rfl rfl) rfl rfl ?_)
                    refine g_step rfl (s_val (by first | exact v_loadl_all ty46 rfl rfl rfl rfl rfl | exact v_loadl_part (cs := [_, _, _, _, _, _, _]) ty46 rfl rfl rfl rfl rfl rfl) rfl rfl ?_)
                    refine g_step rfl (s_callp rfl rfl rfl (put_ok l (wthInc o (a.rc.inc + 1)) _ _ rfl (by omega) hs (hso)) ?_)
                    rintro _ rfl
                    refine g_step rfl (s_fieldAddr ty61 fo61_2 ty22 rfl rfl ?_)
                    refine g_step rfl (s_store (new := (mdl me room (rput l (wthInc o (a.rc.inc + 1))))) ty22 rfl rfl rfl rfl rfl rfl rfl ?_)
                    refine g_nil ?_
                    refine g_next hK121 ?_
                    refine g_seq (fun K122 hK122 => ?_)
                    refine g_region ?_
                    refine g_step rfl (s_val (by first | exact v_loadl_all ty61 rfl rfl rfl rfl rfl | exact v_loadl_part (cs := [_, _, _]) ty61 rfl rfl rfl rfl rfl rfl) rfl rfl ?_)
                    refine g_step rfl (s_store_all ty61 rfl rfl rfl rfl rfl rfl ?_)
                    refine g_step rfl (s_val (v_assign rfl) rfl rfl ?_)
                    refine g_nil ?_
                    refine g_next hK122 ?_
                    refine g_ret ?_
                    refine g_then_ret ?_
                    refine g_then_ret ?_
                    refine g_end2 (.inl rfl) Try.results30 (.agg ty61 rfl rfl rfl rfl rfl) (.tmp rfl) [] (ASub.refl _) (AHeap.sub_refl _) (fun p hp => by cases hp) ⟨rfl, ?_⟩
                    first | (rw [hR]; rfl; done) | (rw [hR]; rfl; rfl)
        · try simp only [decide_eq_true_eq, decide_eq_false_iff_not, Bool.not_eq_true', Bool.not_eq_false', Bool.not_eq_eq_eq_not, Bool.not_true, Bool.not_false, Bool.and_eq_true, Bool.or_eq_true, Bool.or_eq_false_iff, beq_iff_eq, beq_eq_false_iff_ne, ne_eq, Int.not_lt, Int.not_le, Decidable.not_not] at hc52
          have hid : ¬ (a.rc.id = me) := by omega
          refine g_skip ?_
          refine g_next hK96 ?_
          refine g_seq (fun K123 hK123 => ?_)
          refine g_seq (fun K124 hK124 => ?_)
          refine g_region ?_
          refine g_step rfl (s_val (v_move rfl) rfl rfl ?_)
          refine g_step rfl (s_val (v_not rfl) rfl rfl ?_)
          refine g_nil ?_
          refine g_next hK124 ?_
          refine g_cond rfl (fun hc99 => ?_) (fun hc99 => ?_)
          · try simp only [decide_eq_true_eq, decide_eq_false_iff_not, Bool.not_eq_true', Bool.not_eq_false', Bool.not_eq_eq_eq_not, Bool.not_true, Bool.not_false, Bool.and_eq_true, Bool.or_eq_true, Bool.or_eq_false_iff, beq_iff_eq, beq_eq_false_iff_ne, ne_eq, Int.not_lt, Int.not_le, Decidable.not_not] at hc99
            have hno := rfind_no (l := l) (id := a.rc.id) (by simpa using hc99)
            refine g_seq (fun K125 hK125 => ?_)
            refine g_seq (fun K126 hK126 => ?_)
            refine g_region ?_
            refine g_step rfl (s_fieldAddr ty61 fo61_2 ty22 rfl rfl ?_)
            refine g_step rfl (s_val (v_loadl ty22 rfl rfl rfl rfl) rfl rfl ?_)
            refine g_step rfl (s_val (v_len ty22 rfl (by first | rfl | assumption) (by first | exact List.length_map .. | rfl)) rfl rfl ?_)
            refine g_step rfl (s_fieldAddr ty61 fo61_1 ty3 rfl rfl ?_)
            refine g_step rfl (s_val (v_loadl ty3 rfl rfl rfl rfl) rfl rfl ?_)
            refine g_step rfl (s_val (v_geq rfl rfl) rfl rfl ?_)
            refine g_nil ?_
            refine g_next hK126 ?_
            refine g_cond rfl (fun hc105 => ?_) (fun hc105 => ?_)
            · try simp only [decide_eq_true_eq, decide_eq_false_iff_not, Bool.not_eq_true', Bool.not_eq_false', Bool.not_eq_eq_eq_not, Bool.not_true, Bool.not_false, Bool.and_eq_true, Bool.or_eq_true, Bool.or_eq_false_iff, beq_iff_eq, beq_eq_false_iff_ne, ne_eq, Int.not_lt, Int.not_le, Decidable.not_not] at hc105
              refine g_seq (fun K127 hK127 => ?_)
              refine g_region ?_
              have hR : doL me room l a = (l, 3) := by rw [doL, if_pos hk0, joinT, if_neg hv, if_neg hid, hno]; exact if_pos (by omega)
              refine g_step rfl (s_val (by first | exact v_loadl_all ty61 rfl rfl rfl rfl rfl | exact v_loadl_part (cs := [_, _, _]) ty61 rfl rfl rfl rfl rfl rfl) rfl rfl ?_)
              refine g_step rfl (s_store_all ty61 rfl rfl rfl rfl rfl rfl ?_)
              refine g_step rfl (s_val (v_assign rfl) rfl rfl ?_)
              refine g_nil ?_
              refine g_next hK127 ?_
              refine g_ret ?_
              refine g_then_ret ?_
              refine g_then_ret ?_
              refine g_then_ret ?_
              refine g_end2 (.inl rfl) Try.results30 (.agg ty61 rfl rfl rfl rfl rfl) (.tmp rfl) [] (ASub.refl _) (AHeap.sub_refl _) (fun p hp => by cases hp) ⟨rfl, ?_⟩
              first | (rw [hR]; rfl; done) | (rw [hR]; rfl; rfl)
            · try simp only [decide_eq_true_eq, decide_eq_false_iff_not, Bool.not_eq_true', Bool.not_eq_false', Bool.not_eq_eq_eq_not, Bool.not_true, Bool.not_false, Bool.and_eq_true, Bool.or_eq_true, Bool.or_eq_false_iff, beq_iff_eq, beq_eq_false_iff_ne, ne_eq, Int.not_lt, Int.not_le, Decidable.not_not] at hc105
              refine g_skip ?_
              refine g_next hK125 ?_
              refine g_seq (fun K128 hK128 => ?_)
              refine g_region ?_
              have hR : doL me room l a = (rput l a.rc, 1) := by rw [doL, if_pos hk0, joinT, if_neg hv, if_neg hid, hno]; exact if_neg (by omega)
              refine g_step rfl (s_fieldAddr ty61 fo61_2 ty22 rfl rfl ?_)
              refine g_step rfl (s_val (v_loadl ty22 rfl rfl rfl rfl) rfl rfl ?_)
              refine g_step rfl (s_fieldAddr ty65 fo65_1 ty46 rfl rfl ?_)
              refine g_step rfl (s_val (v_loadl_part (cs := [_, _, _, _, _, _, _]) ty46 rfl rfl rfl rfl rfl rfl) rfl rfl ?_)
              refine g_step rfl (s_callp rfl rfl rfl (put_ok l a.rc _ _ rfl (by omega) hs (hb)) ?_)
              rintro _ rfl
              refine g_step rfl (s_fieldAddr ty61 fo61_2 ty22 rfl rfl ?_)
              refine g_step rfl (s_store (new := (mdl me room (rput l a.rc))) ty22 rfl rfl rfl rfl rfl rfl rfl ?_)
              refine g_nil ?_
              refine g_next hK128 ?_
              refine g_seq (fun K129 hK129 => ?_)
              refine g_region ?_
              refine g_step rfl (s_val (by first | exact v_loadl_all ty61 rfl rfl rfl rfl rfl | exact v_loadl_part (cs := [_, _, _]) ty61 rfl rfl rfl rfl rfl rfl) rfl rfl ?_)
              refine g_step rfl (s_store_all ty61 rfl rfl rfl rfl rfl rfl ?_)
              refine g_step rfl (s_val (v_assign rfl) rfl rfl ?_)
              refine g_nil ?_
              refine g_next hK129 ?_
              refine g_ret ?_
              refine g_then_ret ?_
              refine g_then_ret ?_
              refine g_end2 (.inl rfl) Try.results30 (.agg ty61 rfl rfl rfl rfl rfl) (.tmp rfl) [] (ASub.refl _) (AHeap.sub_refl _) (fun p hp => by cases hp) ⟨rfl, ?_⟩
              first | (rw [hR]; rfl; done) | (rw [hR]; rfl; rfl)
          · try simp only [decide_eq_true_eq, decide_eq_false_iff_not, Bool.not_eq_true', Bool.not_eq_false', Bool.not_eq_eq_eq_not, Bool.not_true, Bool.not_false, Bool.and_eq_true, Bool.or_eq_true, Bool.or_eq_false_iff, beq_iff_eq, beq_eq_false_iff_ne, ne_eq, Int.not_lt, Int.not_le, Decidable.not_not] at hc99
            have hy := rfind_yes (l := l) (id := a.rc.id) (by simpa using hc99)
            have hyid := fnd_id hy
            have hsj : Small (jn (rfind l a.rc.id).1 a.rc).bag := jn_small hsY hb
            refine g_skip ?_
            refine g_next hK123 ?_
            refine g_seq (fun K130 hK130 => ?_)
            refine g_region ?_
            refine g_step rfl (s_val (by first | exact v_loadl_all ty46 rfl rfl rfl rfl rfl | exact v_loadl_part (cs := [_, _, _, _, _, _, _]) ty46 rfl rfl rfl rfl rfl rfl) rfl rfl ?_)
            refine g_step rfl (s_fieldAddr ty65 fo65_1 ty46 rfl rfl ?_)
            refine g_step rfl (s_val (v_loadl_part (cs := [_, _, _, _, _, _, _]) ty46 rfl rfl rfl rfl rfl rfl) rfl rfl ?_)
            refine g_step rfl (s_callp rfl rfl rfl (join_ok (rfind l a.rc.id).1 a.rc _ hsY hb) ?_)
            rintro _ rfl
            rw [jnAll_same hyid]
            refine g_step rfl (s_val (v_move rfl) rfl rfl ?_)
            refine g_step rfl (s_val (v_extract rfl rfl) rfl rfl ?_)
            refine g_step rfl (s_val (v_extract rfl rfl) rfl rfl ?_)
            refine g_step rfl (s_alloc (av := (.agg [(.int .i64 0), (.int .i64 0), (.int .i64 0), (.int .i64 0), (.int .i64 0), (.bool false), .nil0])) ty46 rfl rfl rfl rfl ?_)
            refine g_step rfl (s_store_all ty46 rfl rfl rfl rfl rfl rfl ?_)
            refine g_step rfl (s_val (v_assign rfl) rfl rfl ?_)
            refine g_nil ?_
            refine g_next hK130 ?_
            refine g_seq (fun K131 hK131 => ?_)
            refine g_seq (fun K132 hK132 => ?_)
            refine g_region ?_
            refine g_step rfl (s_val (by first | exact v_loadl_all ty46 rfl rfl rfl rfl rfl | exact v_loadl_part (cs := [_, _, _, _, _, _, _]) ty46 rfl rfl rfl rfl rfl rfl) rfl rfl ?_)
            refine g_step rfl (s_val (by first | exact v_loadl_all ty46 rfl rfl rfl rfl rfl | exact v_loadl_part (cs := [_, _, _, _, _, _, _]) ty46 rfl rfl rfl rfl rfl rfl) rfl rfl ?_)
            refine g_step rfl (s_callp rfl rfl rfl (alike_ok (jn (rfind l a.rc.id).1 a.rc) (rfind l a.rc.id).1 _ hsj) ?_)
            rintro _ rfl
            refine g_nil ?_
            refine g_next hK132 ?_
            refine g_cond rfl (fun hc123 => ?_) (fun hc123 => ?_)
            · try simp only [decide_eq_true_eq, decide_eq_false_iff_not, Bool.not_eq_true', Bool.not_eq_false', Bool.not_eq_eq_eq_not, Bool.not_true, Bool.not_false, Bool.and_eq_true, Bool.or_eq_true, Bool.or_eq_false_iff, beq_iff_eq, beq_eq_false_iff_ne, ne_eq, Int.not_lt, Int.not_le, Decidable.not_not] at hc123
              refine g_seq (fun K133 hK133 => ?_)
              refine g_region ?_
              have hR : doL me room l a = (l, 0) := by rw [doL, if_pos hk0, joinT, if_neg hv, if_neg hid, hy]; exact if_pos (by simpa using hc123)
              refine g_step rfl (s_val (by first | exact v_loadl_all ty61 rfl rfl rfl rfl rfl | exact v_loadl_part (cs := [_, _, _]) ty61 rfl rfl rfl rfl rfl rfl) rfl rfl ?_)
              refine g_step rfl (s_store_all ty61 rfl rfl rfl rfl rfl rfl ?_)
              refine g_step rfl (s_val (v_assign rfl) rfl rfl ?_)
              refine g_nil ?_
              refine g_next hK133 ?_
              refine g_ret ?_
              refine g_then_ret ?_
              refine g_then_ret ?_
              refine g_end2 (.inl rfl) Try.results30 (.agg ty61 rfl rfl rfl rfl rfl) (.tmp rfl) [] (ASub.refl _) (AHeap.sub_refl _) (fun p hp => by cases hp) ⟨rfl, ?_⟩
              first | (rw [hR]; rfl; done) | (rw [hR]; rfl; rfl)
            · try simp only [decide_eq_true_eq, decide_eq_false_iff_not, Bool.not_eq_true', Bool.not_eq_false', Bool.not_eq_eq_eq_not, Bool.not_true, Bool.not_false, Bool.and_eq_true, Bool.or_eq_true, Bool.or_eq_false_iff, beq_iff_eq, beq_eq_false_iff_ne, ne_eq, Int.not_lt, Int.not_le, Decidable.not_not] at hc123
              refine g_skip ?_
              refine g_next hK131 ?_
              refine g_seq (fun K134 hK134 => ?_)
              refine g_region ?_
              have hR : doL me room l a = (rput l (jn (rfind l a.rc.id).1 a.rc), 2) := by rw [doL, if_pos hk0, joinT, if_neg hv, if_neg hid, hy]; exact if_neg (by simpa using hc123)
              refine g_step rfl (s_fieldAddr ty61 fo61_2 ty22 rfl rfl ?_)
              refine g_step rfl (s_val (v_loadl ty22 rfl rfl rfl rfl) rfl rfl ?_)
              refine g_step rfl (s_val (by first | exact v_loadl_all ty46 rfl rfl rfl rfl rfl | exact v_loadl_part (cs := [_, _, _, _, _, _, _]) ty46 rfl rfl rfl rfl rfl rfl) rfl rfl ?_)
              refine g_step rfl (s_callp rfl rfl rfl (put_ok l (jn (rfind l a.rc.id).1 a.rc) _ _ rfl (by omega) hs (hsj)) ?_)
              rintro _ rfl
              refine g_step rfl (s_fieldAddr ty61 fo61_2 ty22 rfl rfl ?_)
              refine g_step rfl (s_store (new := (mdl me room (rput l (jn (rfind l a.rc.id).1 a.rc)))) ty22 rfl rfl rfl rfl rfl rfl rfl ?_)
              refine g_nil ?_
              refine g_next hK134 ?_
              refine g_seq (fun K135 hK135 => ?_)
              refine g_region ?_
              refine g_step rfl (s_val (by first | exact v_loadl_all ty61 rfl rfl rfl rfl rfl | exact v_loadl_part (cs := [_, _, _]) ty61 rfl rfl rfl rfl rfl rfl) rfl rfl ?_)
              refine g_step rfl (s_store_all ty61 rfl rfl rfl rfl rfl rfl ?_)
              refine g_step rfl (s_val (v_assign rfl) rfl rfl ?_)
              refine g_nil ?_
              refine g_next hK135 ?_
              refine g_ret ?_
              refine g_then_ret ?_
              refine g_end2 (.inl rfl) Try.results30 (.agg ty61 rfl rfl rfl rfl rfl) (.tmp rfl) [] (ASub.refl _) (AHeap.sub_refl _) (fun p hp => by cases hp) ⟨rfl, ?_⟩
              first | (rw [hR]; rfl; done) | (rw [hR]; rfl; rfl)
    · try simp only [decide_eq_true_eq, decide_eq_false_iff_not, Bool.not_eq_true', Bool.not_eq_false', Bool.not_eq_eq_eq_not, Bool.not_true, Bool.not_false, Bool.and_eq_true, Bool.or_eq_true, Bool.or_eq_false_iff, beq_iff_eq, beq_eq_false_iff_ne, ne_eq, Int.not_lt, Int.not_le, Decidable.not_not] at hc41
      have hk0 : ¬ (a.k = 0) := by omega
      refine g_skip ?_
      refine g_next hK91 ?_
      refine g_seq (fun K136 hK136 => ?_)
      refine g_seq (fun K137 hK137 => ?_)
      refine g_region ?_
      refine g_step rfl (s_fieldAddr ty65 fo65_0 ty3 rfl rfl ?_)
      refine g_step rfl (s_val (v_loadl ty3 rfl rfl rfl rfl) rfl rfl ?_)
      refine g_step rfl (s_val (v_eql rfl rfl) rfl rfl ?_)
      refine g_step rfl (s_val (v_move rfl) rfl rfl ?_)
      refine g_split 134 rfl (fun hg134 => ?_) (fun hg134 => ?_)
      · try simp only [decide_eq_true_eq, decide_eq_false_iff_not, Bool.not_eq_true', Bool.not_eq_false', Bool.not_eq_eq_eq_not, Bool.not_true, Bool.not_false, Bool.and_eq_true, Bool.or_eq_true, Bool.or_eq_false_iff, beq_iff_eq, beq_eq_false_iff_ne, ne_eq, Int.not_lt, Int.not_le, Decidable.not_not] at hg134
        refine g_step_no (j := 3) (t := 134) rfl rfl rfl rfl rfl rfl rfl ?_
        refine g_step_no (j := 3) (t := 134) rfl rfl rfl rfl rfl rfl rfl ?_
        refine g_step_no (j := 3) (t := 134) rfl rfl rfl rfl rfl rfl rfl ?_
        refine g_step rfl (s_val (v_pick_t rfl rfl) rfl rfl ?_)
        refine g_nil ?_
        refine g_next hK137 ?_
        first | refine g_keep [9, 138] [2, 3, 4, 6, 8, 10] [2, 3, 4, 6, 8, 10] (keep_cons rfl (keep_cons rfl keep_nil)) (lkeep_cons rfl (lkeep_cons rfl (lkeep_cons rfl (lkeep_cons rfl (lkeep_cons rfl (lkeep_cons rfl lkeep_nil)))))) (keep_cons rfl (keep_cons rfl (keep_cons rfl (keep_cons rfl (keep_cons rfl (keep_cons rfl keep_nil)))))) rfl ?_ | refine g_keep [9, 138] [2, 3, 4, 6, 8, 10] [2, 3, 4, 6, 8, 10] rfl rfl rfl rfl ?_
        refine g_cond rfl (fun _ => ?_) (fun h => by cases h)
        refine g_seq (fun K138 hK138 => ?_)
        refine g_seq (fun K139 hK139 => ?_)
        refine g_region ?_
        have hk12 : a.k = 1 ∨ a.k = 2 := by omega
        refine g_step rfl (s_val (v_move rfl) rfl rfl ?_)
        refine g_step rfl (s_val (v_not rfl) rfl rfl ?_)
        refine g_step rfl (s_val (v_move rfl) rfl rfl ?_)
        refine g_split 141 rfl (fun hg141 => ?_) (fun hg141 => ?_)
        · try simp only [decide_eq_true_eq, decide_eq_false_iff_not, Bool.not_eq_true', Bool.not_eq_false', Bool.not_eq_eq_eq_not, Bool.not_true, Bool.not_false, Bool.and_eq_true, Bool.or_eq_true, Bool.or_eq_false_iff, beq_iff_eq, beq_eq_false_iff_ne, ne_eq, Int.not_lt, Int.not_le, Decidable.not_not] at hg141
          refine g_step_no (j := 2) (t := 141) rfl rfl rfl rfl rfl rfl rfl ?_
          refine g_step_no (j := 2) (t := 141) rfl rfl rfl rfl rfl rfl rfl ?_
          refine g_step_no (j := 2) (t := 141) rfl rfl rfl rfl rfl rfl rfl ?_
          refine g_step_no (j := 2) (t := 141) rfl rfl rfl rfl rfl rfl rfl ?_
          refine g_step_no (j := 2) (t := 141) rfl rfl rfl rfl rfl rfl rfl ?_
          refine g_step_no (j := 2) (t := 141) rfl rfl rfl rfl rfl rfl rfl ?_
          refine g_step rfl (s_val (v_pick_t rfl rfl) rfl rfl ?_)
          refine g_step rfl (s_val (v_move rfl) rfl rfl ?_)
          refine g_step_no (j := 10) (t := 149) rfl rfl rfl rfl rfl rfl rfl ?_
          refine g_step_no (j := 10) (t := 149) rfl rfl rfl rfl rfl rfl rfl ?_
          refine g_step_no (j := 10) (t := 149) rfl rfl rfl rfl rfl rfl rfl ?_
          refine g_step_no (j := 10) (t := 149) rfl rfl rfl rfl rfl rfl rfl ?_
          refine g_step_no (j := 10) (t := 149) rfl rfl rfl rfl rfl rfl rfl ?_
          refine g_step_no (j := 10) (t := 149) rfl rfl rfl rfl rfl rfl rfl ?_
          refine g_step rfl (s_val (v_pick_t rfl rfl) rfl rfl ?_)
          refine g_step rfl (s_val (v_move rfl) rfl rfl ?_)
          refine g_step_no (j := 18) (t := 157) rfl rfl rfl rfl rfl rfl rfl ?_
          refine g_step_no (j := 18) (t := 157) rfl rfl rfl rfl rfl rfl rfl ?_
          refine g_step_no (j := 18) (t := 157) rfl rfl rfl rfl rfl rfl rfl ?_
          refine g_step_no (j := 18) (t := 157) rfl rfl rfl rfl rfl rfl rfl ?_
          refine g_step_no (j := 18) (t := 157) rfl rfl rfl rfl rfl rfl rfl ?_
          refine g_step_no (j := 18) (t := 157) rfl rfl rfl rfl rfl rfl rfl ?_
          refine g_step rfl (s_val (v_pick_t rfl rfl) rfl rfl ?_)
          refine g_nil ?_
          refine g_next hK139 ?_
          first | refine g_keep [164] [2, 3, 4, 8, 10] [2, 3, 4, 8, 10] (keep_cons rfl keep_nil) (lkeep_cons rfl (lkeep_cons rfl (lkeep_cons rfl (lkeep_cons rfl (lkeep_cons rfl lkeep_nil))))) (keep_cons rfl (keep_cons rfl (keep_cons rfl (keep_cons rfl (keep_cons rfl keep_nil))))) rfl ?_ | refine g_keep [164] [2, 3, 4, 8, 10] [2, 3, 4, 8, 10] rfl rfl rfl rfl ?_
          refine g_cond rfl (fun _ => ?_) (fun h => by cases h)
          refine g_seq (fun K140 hK140 => ?_)
          refine g_region ?_
          have hM : moveT me l a.rc.id a.rc.inc (a.k - 1) a.k = (l, false) := by cases hq : (rfind l a.rc.id).2; simp [moveT, rfind_no hq]; (rw [moveT, rfind_yes hq]; first | exact if_pos (by omega) | (exfalso; simp_all; done))
          have hR : doL me room l a = (l, 0) := by rw [doL, if_neg hk0, if_pos hk12, hM]; rfl
          refine g_step rfl (s_val (by first | exact v_loadl_all ty61 rfl rfl rfl rfl rfl | exact v_loadl_part (cs := [_, _, _]) ty61 rfl rfl rfl rfl rfl rfl) rfl rfl ?_)
          refine g_step rfl (s_store_all ty61 rfl rfl rfl rfl rfl rfl ?_)
          refine g_step rfl (s_val (v_assign rfl) rfl rfl ?_)
          refine g_nil ?_
          refine g_next hK140 ?_
          refine g_ret ?_
          refine g_then_ret ?_
          refine g_then_ret ?_
          refine g_end2 (.inl rfl) Try.results30 (.agg ty61 rfl rfl rfl rfl rfl) (.tmp rfl) [] (ASub.refl _) (AHeap.sub_refl _) (fun p hp => by cases hp) ⟨rfl, ?_⟩
          first | (rw [hR]; rfl; done) | (rw [hR]; rfl; rfl)
        · try simp only [decide_eq_true_eq, decide_eq_false_iff_not, Bool.not_eq_true', Bool.not_eq_false', Bool.not_eq_eq_eq_not, Bool.not_true, Bool.not_false, Bool.and_eq_true, Bool.or_eq_true, Bool.or_eq_false_iff, beq_iff_eq, beq_eq_false_iff_ne, ne_eq, Int.not_lt, Int.not_le, Decidable.not_not] at hg141
          refine g_step_yes (j := 2) (t := 141) rfl rfl rfl rfl (s_fieldAddr ty65 fo65_1 ty46 rfl rfl ?_)
          refine g_step_yes (j := 2) (t := 141) rfl rfl rfl rfl (s_fieldAddr ty46 fo46_0 ty3 rfl rfl ?_)
          refine g_step_yes (j := 2) (t := 141) rfl rfl rfl rfl (s_val (v_loadl ty3 rfl rfl rfl rfl) rfl rfl ?_)
          refine g_step_yes (j := 2) (t := 141) rfl rfl rfl rfl (s_fieldAddr ty61 fo61_0 ty3 rfl rfl ?_)
          refine g_step_yes (j := 2) (t := 141) rfl rfl rfl rfl (s_val (v_loadl ty3 rfl rfl rfl rfl) rfl rfl ?_)
          refine g_step_yes (j := 2) (t := 141) rfl rfl rfl rfl (s_val (v_eql rfl rfl) rfl rfl ?_)
          refine g_step rfl (s_val (v_pick_f rfl rfl) rfl rfl ?_)
          refine g_step rfl (s_val (v_move rfl) rfl rfl ?_)
          refine g_split 149 rfl (fun hg149 => ?_) (fun hg149 => ?_)
          · try simp only [decide_eq_true_eq, decide_eq_false_iff_not, Bool.not_eq_true', Bool.not_eq_false', Bool.not_eq_eq_eq_not, Bool.not_true, Bool.not_false, Bool.and_eq_true, Bool.or_eq_true, Bool.or_eq_false_iff, beq_iff_eq, beq_eq_false_iff_ne, ne_eq, Int.not_lt, Int.not_le, Decidable.not_not] at hg149
            refine g_step_no (j := 10) (t := 149) rfl rfl rfl rfl rfl rfl rfl ?_
            refine g_step_no (j := 10) (t := 149) rfl rfl rfl rfl rfl rfl rfl ?_
            refine g_step_no (j := 10) (t := 149) rfl rfl rfl rfl rfl rfl rfl ?_
            refine g_step_no (j := 10) (t := 149) rfl rfl rfl rfl rfl rfl rfl ?_
            refine g_step_no (j := 10) (t := 149) rfl rfl rfl rfl rfl rfl rfl ?_
            refine g_step_no (j := 10) (t := 149) rfl rfl rfl rfl rfl rfl rfl ?_
            refine g_step rfl (s_val (v_pick_t rfl rfl) rfl rfl ?_)
            refine g_step rfl (s_val (v_move rfl) rfl rfl ?_)
            refine g_step_no (j := 18) (t := 157) rfl rfl rfl rfl rfl rfl rfl ?_
            refine g_step_no (j := 18) (t := 157) rfl rfl rfl rfl rfl rfl rfl ?_
            refine g_step_no (j := 18) (t := 157) rfl rfl rfl rfl rfl rfl rfl ?_
            refine g_step_no (j := 18) (t := 157) rfl rfl rfl rfl rfl rfl rfl ?_
            refine g_step_no (j := 18) (t := 157) rfl rfl rfl rfl rfl rfl rfl ?_
            refine g_step_no (j := 18) (t := 157) rfl rfl rfl rfl rfl rfl rfl ?_
            refine g_step rfl (s_val (v_pick_t rfl rfl) rfl rfl ?_)
            refine g_nil ?_
            refine g_next hK139 ?_
            first | refine g_keep [164] [2, 3, 4, 8, 10] [2, 3, 4, 8, 10] (keep_cons rfl keep_nil) (lkeep_cons rfl (lkeep_cons rfl (lkeep_cons rfl (lkeep_cons rfl (lkeep_cons rfl lkeep_nil))))) (keep_cons rfl (keep_cons rfl (keep_cons rfl (keep_cons rfl (keep_cons rfl keep_nil))))) rfl ?_ | refine g_keep [164] [2, 3, 4, 8, 10] [2, 3, 4, 8, 10] rfl rfl rfl rfl ?_
            refine g_cond rfl (fun _ => ?_) (fun h => by cases h)
            refine g_seq (fun K141 hK141 => ?_)
            refine g_region ?_
            have hM : moveT me l a.rc.id a.rc.inc (a.k - 1) a.k = (l, false) := by cases hq : (rfind l a.rc.id).2; simp [moveT, rfind_no hq]; (rw [moveT, rfind_yes hq]; first | exact if_pos (by omega) | (exfalso; simp_all; done))
            have hR : doL me room l a = (l, 0) := by rw [doL, if_neg hk0, if_pos hk12, hM]; rfl
            refine g_step rfl (s_val (by first | exact v_loadl_all ty61 rfl rfl rfl rfl rfl | exact v_loadl_part (cs := [_, _, _]) ty61 rfl rfl rfl rfl rfl rfl) rfl rfl ?_)
            refine g_step rfl (s_store_all ty61 rfl rfl rfl rfl rfl rfl ?_)
            refine g_step rfl (s_val (v_assign rfl) rfl rfl ?_)
            refine g_nil ?_
            refine g_next hK141 ?_
            refine g_ret ?_
            refine g_then_ret ?_
            refine g_then_ret ?_
            refine g_end2 (.inl rfl) Try.results30 (.agg ty61 rfl rfl rfl rfl rfl) (.tmp rfl) [] (ASub.refl _) (AHeap.sub_refl _) (fun p hp => by cases hp) ⟨rfl, ?_⟩
            first | (rw [hR]; rfl; done) | (rw [hR]; rfl; rfl)
          · try simp only [decide_eq_true_eq, decide_eq_false_iff_not, Bool.not_eq_true', Bool.not_eq_false', Bool.not_eq_eq_eq_not, Bool.not_true, Bool.not_false, Bool.and_eq_true, Bool.or_eq_true, Bool.or_eq_false_iff, beq_iff_eq, beq_eq_false_iff_ne, ne_eq, Int.not_lt, Int.not_le, Decidable.not_not] at hg149
            refine g_step_yes (j := 10) (t := 149) rfl rfl rfl rfl (s_fieldAddr ty46 fo46_1 ty3 rfl rfl ?_)
            refine g_step_yes (j := 10) (t := 149) rfl rfl rfl rfl (s_val (v_loadl ty3 rfl rfl rfl rfl) rfl rfl ?_)
            refine g_step_yes (j := 10) (t := 149) rfl rfl rfl rfl (s_fieldAddr ty65 fo65_1 ty46 rfl rfl ?_)
            refine g_step_yes (j := 10) (t := 149) rfl rfl rfl rfl (s_fieldAddr ty46 fo46_1 ty3 rfl rfl ?_)
            refine g_step_yes (j := 10) (t := 149) rfl rfl rfl rfl (s_val (v_loadl ty3 rfl rfl rfl rfl) rfl rfl ?_)
            refine g_step_yes (j := 10) (t := 149) rfl rfl rfl rfl (s_val (v_neq rfl rfl) rfl rfl ?_)
            refine g_step rfl (s_val (v_pick_f rfl rfl) rfl rfl ?_)
            refine g_step rfl (s_val (v_move rfl) rfl rfl ?_)
            refine g_split 157 rfl (fun hg157 => ?_) (fun hg157 => ?_)
            · try simp only [decide_eq_true_eq, decide_eq_false_iff_not, Bool.not_eq_true', Bool.not_eq_false', Bool.not_eq_eq_eq_not, Bool.not_true, Bool.not_false, Bool.and_eq_true, Bool.or_eq_true, Bool.or_eq_false_iff, beq_iff_eq, beq_eq_false_iff_ne, ne_eq, Int.not_lt, Int.not_le, Decidable.not_not] at hg157
              refine g_step_no (j := 18) (t := 157) rfl rfl rfl rfl rfl rfl rfl ?_
              refine g_step_no (j := 18) (t := 157) rfl rfl rfl rfl rfl rfl rfl ?_
              refine g_step_no (j := 18) (t := 157) rfl rfl rfl rfl rfl rfl rfl ?_
              refine g_step_no (j := 18) (t := 157) rfl rfl rfl rfl rfl rfl rfl ?_
              refine g_step_no (j := 18) (t := 157) rfl rfl rfl rfl rfl rfl rfl ?_
              refine g_step_no (j := 18) (t := 157) rfl rfl rfl rfl rfl rfl rfl ?_
              refine g_step rfl (s_val (v_pick_t rfl rfl) rfl rfl ?_)
              refine g_nil ?_
              refine g_next hK139 ?_
              refine g_cond rfl (fun _ => ?_) (fun h => by cases h)
              refine g_seq (fun K142 hK142 => ?_)
              refine g_region ?_
              have hM : moveT me l a.rc.id a.rc.inc (a.k - 1) a.k = (l, false) := by cases hq : (rfind l a.rc.id).2; simp [moveT, rfind_no hq]; (rw [moveT, rfind_yes hq]; first | exact if_pos (by omega) | (exfalso; simp_all; done))
              have hR : doL me room l a = (l, 0) := by rw [doL, if_neg hk0, if_pos hk12, hM]; rfl
              refine g_step rfl (s_val (by first | exact v_loadl_all ty61 rfl rfl rfl rfl rfl | exact v_loadl_part (cs := [_, _, _]) ty61 rfl rfl rfl rfl rfl rfl) rfl rfl ?_)
              refine g_step rfl (s_store_all ty61 rfl rfl rfl rfl rfl rfl ?_)
              refine g_step rfl (s_val (v_assign rfl) rfl rfl ?_)
              refine g_nil ?_
              refine g_next hK142 ?_
              refine g_ret ?_
              refine g_then_ret ?_
              refine g_then_ret ?_
              refine g_end2 (.inl rfl) Try.results30 (.agg ty61 rfl rfl rfl rfl rfl) (.tmp rfl) [] (ASub.refl _) (AHeap.sub_refl _) (fun p hp => by cases hp) ⟨rfl, ?_⟩
              first | (rw [hR]; rfl; done) | (rw [hR]; rfl; rfl)
            · try simp only [decide_eq_true_eq, decide_eq_false_iff_not, Bool.not_eq_true', Bool.not_eq_false', Bool.not_eq_eq_eq_not, Bool.not_true, Bool.not_false, Bool.and_eq_true, Bool.or_eq_true, Bool.or_eq_false_iff, beq_iff_eq, beq_eq_false_iff_ne, ne_eq, Int.not_lt, Int.not_le, Decidable.not_not] at hg157
              refine g_step_yes (j := 18) (t := 157) rfl rfl rfl rfl (s_fieldAddr ty46 fo46_2 ty3 rfl rfl ?_)
              refine g_step_yes (j := 18) (t := 157) rfl rfl rfl rfl (s_val (v_loadl ty3 rfl rfl rfl rfl) rfl rfl ?_)
              refine g_step_yes (j := 18) (t := 157) rfl rfl rfl rfl (s_fieldAddr ty65 fo65_0 ty3 rfl rfl ?_)
              refine g_step_yes (j := 18) (t := 157) rfl rfl rfl rfl (s_val (v_loadl ty3 rfl rfl rfl rfl) rfl rfl ?_)
              refine g_step_yes (j := 18) (t := 157) rfl rfl rfl rfl (s_val (v_sub_ rfl rfl (by omega)) rfl rfl ?_)
              refine g_step_yes (j := 18) (t := 157) rfl rfl rfl rfl (s_val (v_neq rfl rfl) rfl rfl ?_)
              refine g_step rfl (s_val (v_pick_f rfl rfl) rfl rfl ?_)
              refine g_nil ?_
              refine g_next hK139 ?_
              refine g_cond rfl (fun hc164 => ?_) (fun hc164 => ?_)
              · try simp only [decide_eq_true_eq, decide_eq_false_iff_not, Bool.not_eq_true', Bool.not_eq_false', Bool.not_eq_eq_eq_not, Bool.not_true, Bool.not_false, Bool.and_eq_true, Bool.or_eq_true, Bool.or_eq_false_iff, beq_iff_eq, beq_eq_false_iff_ne, ne_eq, Int.not_lt, Int.not_le, Decidable.not_not] at hc164
                refine g_seq (fun K143 hK143 => ?_)
                refine g_region ?_
                have hM : moveT me l a.rc.id a.rc.inc (a.k - 1) a.k = (l, false) := by cases hq : (rfind l a.rc.id).2; simp [moveT, rfind_no hq]; (rw [moveT, rfind_yes hq]; first | exact if_pos (by omega) | (exfalso; simp_all; done))
                have hR : doL me room l a = (l, 0) := by rw [doL, if_neg hk0, if_pos hk12, hM]; rfl
                refine g_step rfl (s_val (by first | exact v_loadl_all ty61 rfl rfl rfl rfl rfl | exact v_loadl_part (cs := [_, _, _]) ty61 rfl rfl rfl rfl rfl rfl) rfl rfl ?_)
                refine g_step rfl (s_store_all ty61 rfl rfl rfl rfl rfl rfl ?_)
                refine g_step rfl (s_val (v_assign rfl) rfl rfl ?_)
                refine g_nil ?_
                refine g_next hK143 ?_
                refine g_ret ?_
                refine g_then_ret ?_
                refine g_then_ret ?_
                refine g_end2 (.inl rfl) Try.results30 (.agg ty61 rfl rfl rfl rfl rfl) (.tmp rfl) [] (ASub.refl _) (AHeap.sub_refl _) (fun p hp => by cases hp) ⟨rfl, ?_⟩
                first | (rw [hR]; rfl; done) | (rw [hR]; rfl; rfl)
              · try simp only [decide_eq_true_eq, decide_eq_false_iff_not, Bool.not_eq_true', Bool.not_eq_false', Bool.not_eq_eq_eq_not, Bool.not_true, Bool.not_false, Bool.and_eq_true, Bool.or_eq_true, Bool.or_eq_false_iff, beq_iff_eq, beq_eq_false_iff_ne, ne_eq, Int.not_lt, Int.not_le, Decidable.not_not] at hc164
                refine g_skip ?_
                refine g_next hK138 ?_
                refine g_seq (fun K144 hK144 => ?_)
                refine g_region ?_
                have hy := rfind_yes (l := l) (id := a.rc.id) (by simp_all)
                have hM : moveT me l a.rc.id a.rc.inc (a.k - 1) a.k = (rput l (withSt (rfind l a.rc.id).1 a.k), true) := by rw [moveT, hy]; exact if_neg (by omega)
                have hR : doL me room l a = (rput l (withSt (rfind l a.rc.id).1 a.k), 1) := by rw [doL, if_neg hk0, if_pos hk12, hM]; rfl
                refine g_step rfl (s_fieldAddr ty65 fo65_0 ty3 rfl rfl ?_)
                refine g_step rfl (s_val (v_loadl ty3 rfl rfl rfl rfl) rfl rfl ?_)
                refine g_step rfl (s_fieldAddr ty46 fo46_2 ty3 rfl rfl ?_)
                refine g_step rfl (s_store (new := (encR (withSt (rfind l a.rc.id).1 a.k))) ty3 rfl rfl rfl rfl rfl rfl rfl ?_)
                refine g_nil ?_
                refine g_next hK144 ?_
                refine g_seq (fun K145 hK145 => ?_)
                refine g_region ?_
                refine g_step rfl (s_fieldAddr ty61 fo61_2 ty22 rfl rfl ?_)
                refine g_step rfl (s_val (v_loadl ty22 rfl rfl rfl rfl) rfl rfl ?_)
                refine g_step rfl (s_val (by first | exact v_loadl_all ty46 rfl rfl rfl rfl rfl | exact v_loadl_part (cs := [_, _, _, _, _, _, _]) ty46 rfl rfl rfl rfl rfl rfl) rfl rfl ?_)
                refine g_step rfl (s_callp rfl rfl rfl (put_ok l (withSt (rfind l a.rc.id).1 a.k) _ _ rfl (by omega) hs (hsY)) ?_)
                rintro _ rfl
                refine g_step rfl (s_fieldAddr ty61 fo61_2 ty22 rfl rfl ?_)
                refine g_step rfl (s_store (new := (mdl me room (rput l (withSt (rfind l a.rc.id).1 a.k)))) ty22 rfl rfl rfl rfl rfl rfl rfl ?_)
                refine g_nil ?_
                refine g_next hK145 ?_
                refine g_seq (fun K146 hK146 => ?_)
                refine g_region ?_
                refine g_step rfl (s_val (by first | exact v_loadl_all ty61 rfl rfl rfl rfl rfl | exact v_loadl_part (cs := [_, _, _]) ty61 rfl rfl rfl rfl rfl rfl) rfl rfl ?_)
                refine g_step rfl (s_store_all ty61 rfl rfl rfl rfl rfl rfl ?_)
                refine g_step rfl (s_val (v_assign rfl) rfl rfl ?_)
                refine g_nil ?_
                refine g_next hK146 ?_
                first | refine g_keep [5] [4] [4] (keep_cons rfl keep_nil) (lkeep_cons rfl lkeep_nil) (keep_cons rfl keep_nil) rfl ?_ | refine g_keep [5] [4] [4] rfl rfl rfl rfl ?_
                refine g_ret ?_
                refine g_then_ret ?_
                refine g_end2 (.inl rfl) Try.results30 (.agg ty61 rfl rfl rfl rfl rfl) (.tmp rfl) [] (ASub.refl _) (AHeap.sub_refl _) (fun p hp => by cases hp) ⟨rfl, ?_⟩
                first | (rw [hR]; rfl; done) | (rw [hR]; rfl; rfl)
      · try simp only [decide_eq_true_eq, decide_eq_false_iff_not, Bool.not_eq_true', Bool.not_eq_false', Bool.not_eq_eq_eq_not, Bool.not_true, Bool.not_false, Bool.and_eq_true, Bool.or_eq_true, Bool.or_eq_false_iff, beq_iff_eq, beq_eq_false_iff_ne, ne_eq, Int.not_lt, Int.not_le, Decidable.not_not] at hg134
        refine g_step_yes (j := 3) (t := 134) rfl rfl rfl rfl (s_fieldAddr ty65 fo65_0 ty3 rfl rfl ?_)
        refine g_step_yes (j := 3) (t := 134) rfl rfl rfl rfl (s_val (v_loadl ty3 rfl rfl rfl rfl) rfl rfl ?_)
        refine g_step_yes (j := 3) (t := 134) rfl rfl rfl rfl (s_val (v_eql rfl rfl) rfl rfl ?_)
        refine g_step rfl (s_val (v_pick_f rfl rfl) rfl rfl ?_)
        refine g_nil ?_
        refine g_next hK137 ?_
        first | refine g_keep [9, 138] [2, 3, 4, 6, 8, 10] [2, 3, 4, 6, 8, 10] (keep_cons rfl (keep_cons rfl keep_nil)) (lkeep_cons rfl (lkeep_cons rfl (lkeep_cons rfl (lkeep_cons rfl (lkeep_cons rfl (lkeep_cons rfl lkeep_nil)))))) (keep_cons rfl (keep_cons rfl (keep_cons rfl (keep_cons rfl (keep_cons rfl (keep_cons rfl keep_nil)))))) rfl ?_ | refine g_keep [9, 138] [2, 3, 4, 6, 8, 10] [2, 3, 4, 6, 8, 10] rfl rfl rfl rfl ?_
        refine g_cond rfl (fun hc138 => ?_) (fun hc138 => ?_)
        · try simp only [decide_eq_true_eq, decide_eq_false_iff_not, Bool.not_eq_true', Bool.not_eq_false', Bool.not_eq_eq_eq_not, Bool.not_true, Bool.not_false, Bool.and_eq_true, Bool.or_eq_true, Bool.or_eq_false_iff, beq_iff_eq, beq_eq_false_iff_ne, ne_eq, Int.not_lt, Int.not_le, Decidable.not_not] at hc138
          refine g_seq (fun K147 hK147 => ?_)
          refine g_seq (fun K148 hK148 => ?_)
          refine g_region ?_
          have hk12 : a.k = 1 ∨ a.k = 2 := by omega
          refine g_step rfl (s_val (v_move rfl) rfl rfl ?_)
          refine g_step rfl (s_val (v_not rfl) rfl rfl ?_)
          refine g_step rfl (s_val (v_move rfl) rfl rfl ?_)
          refine g_split 141 rfl (fun hg141 => ?_) (fun hg141 => ?_)
          · try simp only [decide_eq_true_eq, decide_eq_false_iff_not, Bool.not_eq_true', Bool.not_eq_false', Bool.not_eq_eq_eq_not, Bool.not_true, Bool.not_false, Bool.and_eq_true, Bool.or_eq_true, Bool.or_eq_false_iff, beq_iff_eq, beq_eq_false_iff_ne, ne_eq, Int.not_lt, Int.not_le, Decidable.not_not] at hg141
            refine g_step_no (j := 2) (t := 141) rfl rfl rfl rfl rfl rfl rfl ?_
            refine g_step_no (j := 2) (t := 141) rfl rfl rfl rfl rfl rfl rfl ?_
            refine g_step_no (j := 2) (t := 141) rfl rfl rfl rfl rfl rfl rfl ?_
            refine g_step_no (j := 2) (t := 141) rfl rfl rfl rfl rfl rfl rfl ?_
            refine g_step_no (j := 2) (t := 141) rfl rfl rfl rfl rfl rfl rfl ?_
            refine g_step_no (j := 2) (t := 141) rfl rfl rfl rfl rfl rfl rfl ?_
            refine g_step rfl (s_val (v_pick_t rfl rfl) rfl rfl ?_)
            refine g_step rfl (s_val (v_move rfl) rfl rfl ?_)
            refine g_step_no (j := 10) (t := 149) rfl rfl rfl rfl rfl rfl rfl ?_
            refine g_step_no (j := 10) (t := 149) rfl rfl rfl rfl rfl rfl rfl ?_
            refine g_step_no (j := 10) (t := 149) rfl rfl rfl rfl rfl rfl rfl ?_
            refine g_step_no (j := 10) (t := 149) rfl rfl rfl rfl rfl rfl rfl ?_
            refine g_step_no (j := 10) (t := 149) rfl rfl rfl rfl rfl rfl rfl ?_
            refine g_step_no (j := 10) (t := 149) rfl rfl rfl rfl rfl rfl rfl ?_
            refine g_step rfl (s_val (v_pick_t rfl rfl) rfl rfl ?_)
            refine g_step rfl (s_val (v_move rfl) rfl rfl ?_)
            refine g_step_no (j := 18) (t := 157) rfl rfl rfl rfl rfl rfl rfl ?_
            refine g_step_no (j := 18) (t := 157) rfl rfl rfl rfl rfl rfl rfl ?_
            refine g_step_no (j := 18) (t := 157) rfl rfl rfl rfl rfl rfl rfl ?_
            refine g_step_no (j := 18) (t := 157) rfl rfl rfl rfl rfl rfl rfl ?_
            refine g_step_no (j := 18) (t := 157) rfl rfl rfl rfl rfl rfl rfl ?_
            refine g_step_no (j := 18) (t := 157) rfl rfl rfl rfl rfl rfl rfl ?_
            refine g_step rfl (s_val (v_pick_t rfl rfl) rfl rfl ?_)
            refine g_nil ?_
            refine g_next hK148 ?_
            first | refine g_keep [164] [2, 3, 4, 8, 10] [2, 3, 4, 8, 10] (keep_cons rfl keep_nil) (lkeep_cons rfl (lkeep_cons rfl (lkeep_cons rfl (lkeep_cons rfl (lkeep_cons rfl lkeep_nil))))) (keep_cons rfl (keep_cons rfl (keep_cons rfl (keep_cons rfl (keep_cons rfl keep_nil))))) rfl ?_ | refine g_keep [164] [2, 3, 4, 8, 10] [2, 3, 4, 8, 10] rfl rfl rfl rfl ?_
            refine g_cond rfl (fun _ => ?_) (fun h => by cases h)
            refine g_seq (fun K149 hK149 => ?_)
            refine g_region ?_
            have hM : moveT me l a.rc.id a.rc.inc (a.k - 1) a.k = (l, false) := by cases hq : (rfind l a.rc.id).2; simp [moveT, rfind_no hq]; (rw [moveT, rfind_yes hq]; first | exact if_pos (by omega) | (exfalso; simp_all; done))
            have hR : doL me room l a = (l, 0) := by rw [doL, if_neg hk0, if_pos hk12, hM]; rfl
            refine g_step rfl (s_val (by first | exact v_loadl_all ty61 rfl rfl rfl rfl rfl | exact v_loadl_part (cs := [_, _, _]) ty61 rfl rfl rfl rfl rfl rfl) rfl rfl ?_)
            refine g_step rfl (s_store_all ty61 rfl rfl rfl rfl rfl rfl ?_)
            refine g_step rfl (s_val (v_assign rfl) rfl rfl ?_)
            refine g_nil ?_
            refine g_next hK149 ?_
            refine g_ret ?_
            refine g_then_ret ?_
            refine g_then_ret ?_
            refine g_end2 (.inl rfl) Try.results30 (.agg ty61 rfl rfl rfl rfl rfl) (.tmp rfl) [] (ASub.refl _) (AHeap.sub_refl _) (fun p hp => by cases hp) ⟨rfl, ?_⟩
            first | (rw [hR]; rfl; done) | (rw [hR]; rfl; rfl)
          · try simp only [decide_eq_true_eq, decide_eq_false_iff_not, Bool.not_eq_true', Bool.not_eq_false', Bool.not_eq_eq_eq_not, Bool.not_true, Bool.not_false, Bool.and_eq_true, Bool.or_eq_true, Bool.or_eq_false_iff, beq_iff_eq, beq_eq_false_iff_ne, ne_eq, Int.not_lt, Int.not_le, Decidable.not_not] at hg141
            refine g_step_yes (j := 2) (t := 141) rfl rfl rfl rfl (s_fieldAddr ty65 fo65_1 ty46 rfl rfl ?_)
            refine g_step_yes (j := 2) (t := 141) rfl rfl rfl rfl (s_fieldAddr ty46 fo46_0 ty3 rfl rfl ?_)
            refine g_step_yes (j := 2) (t := 141) rfl rfl rfl rfl (s_val (v_loadl ty3 rfl rfl rfl rfl) rfl rfl ?_)
            refine g_step_yes (j := 2) (t := 141) rfl rfl rfl rfl (s_fieldAddr ty61 fo61_0 ty3 rfl rfl ?_)
            refine g_step_yes (j := 2) (t := 141) rfl rfl rfl rfl (s_val (v_loadl ty3 rfl rfl rfl rfl) rfl rfl ?_)
            refine g_step_yes (j := 2) (t := 141) rfl rfl rfl rfl (s_val (v_eql rfl rfl) rfl rfl ?_)
            refine g_step rfl (s_val (v_pick_f rfl rfl) rfl rfl ?_)
            refine g_step rfl (s_val (v_move rfl) rfl rfl ?_)
            refine g_split 149 rfl (fun hg149 => ?_) (fun hg149 => ?_)
            · try simp only [decide_eq_true_eq, decide_eq_false_iff_not, Bool.not_eq_true', Bool.not_eq_false', Bool.not_eq_eq_eq_not, Bool.not_true, Bool.not_false, Bool.and_eq_true, Bool.or_eq_true, Bool.or_eq_false_iff, beq_iff_eq, beq_eq_false_iff_ne, ne_eq, Int.not_lt, Int.not_le, Decidable.not_not] at hg149
              refine g_step_no (j := 10) (t := 149) rfl rfl rfl rfl rfl rfl rfl ?_
              refine g_step_no (j := 10) (t := 149) rfl rfl rfl rfl rfl rfl rfl ?_
              refine g_step_no (j := 10) (t := 149) rfl rfl rfl rfl rfl rfl rfl ?_
              refine g_step_no (j := 10) (t := 149) rfl rfl rfl rfl rfl rfl rfl ?_
              refine g_step_no (j := 10) (t := 149) rfl rfl rfl rfl rfl rfl rfl ?_
              refine g_step_no (j := 10) (t := 149) rfl rfl rfl rfl rfl rfl rfl ?_
              refine g_step rfl (s_val (v_pick_t rfl rfl) rfl rfl ?_)
              refine g_step rfl (s_val (v_move rfl) rfl rfl ?_)
              refine g_step_no (j := 18) (t := 157) rfl rfl rfl rfl rfl rfl rfl ?_
              refine g_step_no (j := 18) (t := 157) rfl rfl rfl rfl rfl rfl rfl ?_
              refine g_step_no (j := 18) (t := 157) rfl rfl rfl rfl rfl rfl rfl ?_
              refine g_step_no (j := 18) (t := 157) rfl rfl rfl rfl rfl rfl rfl ?_
              refine g_step_no (j := 18) (t := 157) rfl rfl rfl rfl rfl rfl rfl ?_
              refine g_step_no (j := 18) (t := 157) rfl rfl rfl rfl rfl rfl rfl ?_
              refine g_step rfl (s_val (v_pick_t rfl rfl) rfl rfl ?_)
              refine g_nil ?_
              refine g_next hK148 ?_
              first | refine g_keep [164] [2, 3, 4, 8, 10] [2, 3, 4, 8, 10] (keep_cons rfl keep_nil) (lkeep_cons rfl (lkeep_cons rfl (lkeep_cons rfl (lkeep_cons rfl (lkeep_cons rfl lkeep_nil))))) (keep_cons rfl (keep_cons rfl (keep_cons rfl (keep_cons rfl (keep_cons rfl keep_nil))))) rfl ?_ | refine g_keep [164] [2, 3, 4, 8, 10] [2, 3, 4, 8, 10] rfl rfl rfl rfl ?_
              refine g_cond rfl (fun _ => ?_) (fun h => by cases h)
              refine g_seq (fun K150 hK150 => ?_)
              refine g_region ?_
              have hM : moveT me l a.rc.id a.rc.inc (a.k - 1) a.k = (l, false) := by cases hq : (rfind l a.rc.id).2; simp [moveT, rfind_no hq]; (rw [moveT, rfind_yes hq]; first | exact if_pos (by omega) | (exfalso; simp_all; done))
              have hR : doL me room l a = (l, 0) := by rw [doL, if_neg hk0, if_pos hk12, hM]; rfl
              refine g_step rfl (s_val (by first | exact v_loadl_all ty61 rfl rfl rfl rfl rfl | exact v_loadl_part (cs := [_, _, _]) ty61 rfl rfl rfl rfl rfl rfl) rfl rfl ?_)
              refine g_step rfl (s_store_all ty61 rfl rfl rfl rfl rfl rfl ?_)
              refine g_step rfl (s_val (v_assign rfl) rfl rfl ?_)
              refine g_nil ?_
              refine g_next hK150 ?_
              refine g_ret ?_
              refine g_then_ret ?_
              refine g_then_ret ?_
              refine g_end2 (.inl rfl) Try.results30 (.agg ty61 rfl rfl rfl rfl rfl) (.tmp rfl) [] (ASub.refl _) (AHeap.sub_refl _) (fun p hp => by cases hp) ⟨rfl, ?_⟩
              first | (rw [hR]; rfl; done) | (rw [hR]; rfl; rfl)
            · try simp only [decide_eq_true_eq, decide_eq_false_iff_not, Bool.not_eq_true', Bool.not_eq_false', Bool.not_eq_eq_eq_not, Bool.not_true, Bool.not_false, Bool.and_eq_true, Bool.or_eq_true, Bool.or_eq_false_iff, beq_iff_eq, beq_eq_false_iff_ne, ne_eq, Int.not_lt, Int.not_le, Decidable.not_not] at hg149
              refine g_step_yes (j := 10) (t := 149) rfl rfl rfl rfl (s_fieldAddr ty46 fo46_1 ty3 rfl rfl ?_)
              refine g_step_yes (j := 10) (t := 149) rfl rfl rfl rfl (s_val (v_loadl ty3 rfl rfl rfl rfl) rfl rfl ?_)
              refine g_step_yes (j := 10) (t := 149) rfl rfl rfl rfl (s_fieldAddr ty65 fo65_1 ty46 rfl rfl ?_)
              refine g_step_yes (j := 10) (t := 149) rfl rfl rfl rfl (s_fieldAddr ty46 fo46_1 ty3 rfl rfl ?_)
              refine g_step_yes (j := 10) (t := 149) rfl rfl rfl rfl (s_val (v_loadl ty3 rfl rfl rfl rfl) rfl rfl ?_)
              refine g_step_yes (j := 10) (t := 149) rfl rfl rfl rfl (s_val (v_neq rfl rfl) rfl rfl ?_)
              refine g_step rfl (s_val (v_pick_f rfl rfl) rfl rfl ?_)
              refine g_step rfl (s_val (v_move rfl) rfl rfl ?_)
              refine g_split 157 rfl (fun hg157 => ?_) (fun hg157 => ?_)
              · try simp only [decide_eq_true_eq, decide_eq_false_iff_not, Bool.not_eq_true', Bool.not_eq_false', Bool.not_eq_eq_eq_not, Bool.not_true, Bool.not_false, Bool.and_eq_true, Bool.or_eq_true, Bool.or_eq_false_iff, beq_iff_eq, beq_eq_false_iff_ne, ne_eq, Int.not_lt, Int.not_le, Decidable.not_not] at hg157
                refine g_step_no (j := 18) (t := 157) rfl rfl rfl rfl rfl rfl rfl ?_
                refine g_step_no (j := 18) (t := 157) rfl rfl rfl rfl rfl rfl rfl ?_
                refine g_step_no (j := 18) (t := 157) rfl rfl rfl rfl rfl rfl rfl ?_
                refine g_step_no (j := 18) (t := 157) rfl rfl rfl rfl rfl rfl rfl ?_
                refine g_step_no (j := 18) (t := 157) rfl rfl rfl rfl rfl rfl rfl ?_
                refine g_step_no (j := 18) (t := 157) rfl rfl rfl rfl rfl rfl rfl ?_
                refine g_step rfl (s_val (v_pick_t rfl rfl) rfl rfl ?_)
                refine g_nil ?_
                refine g_next hK148 ?_
                refine g_cond rfl (fun _ => ?_) (fun h => by cases h)
                refine g_seq (fun K151 hK151 => ?_)
                refine g_region ?_
                have hM : moveT me l a.rc.id a.rc.inc (a.k - 1) a.k = (l, false) := by cases hq : (rfind l a.rc.id).2; simp [moveT, rfind_no hq]; (rw [moveT, rfind_yes hq]; first | exact if_pos (by omega) | (exfalso; simp_all; done))
                have hR : doL me room l a = (l, 0) := by rw [doL, if_neg hk0, if_pos hk12, hM]; rfl
                refine g_step rfl (s_val (by first | exact v_loadl_all ty61 rfl rfl rfl rfl rfl | exact v_loadl_part (cs := [_, _, _]) ty61 rfl rfl rfl rfl rfl rfl) rfl rfl ?_)
                refine g_step rfl (s_store_all ty61 rfl rfl rfl rfl rfl rfl ?_)
                refine g_step rfl (s_val (v_assign rfl) rfl rfl ?_)
                refine g_nil ?_
                refine g_next hK151 ?_
                refine g_ret ?_
                refine g_then_ret ?_
                refine g_then_ret ?_
                refine g_end2 (.inl rfl) Try.results30 (.agg ty61 rfl rfl rfl rfl rfl) (.tmp rfl) [] (ASub.refl _) (AHeap.sub_refl _) (fun p hp => by cases hp) ⟨rfl, ?_⟩
                first | (rw [hR]; rfl; done) | (rw [hR]; rfl; rfl)
              · try simp only [decide_eq_true_eq, decide_eq_false_iff_not, Bool.not_eq_true', Bool.not_eq_false', Bool.not_eq_eq_eq_not, Bool.not_true, Bool.not_false, Bool.and_eq_true, Bool.or_eq_true, Bool.or_eq_false_iff, beq_iff_eq, beq_eq_false_iff_ne, ne_eq, Int.not_lt, Int.not_le, Decidable.not_not] at hg157
                refine g_step_yes (j := 18) (t := 157) rfl rfl rfl rfl (s_fieldAddr ty46 fo46_2 ty3 rfl rfl ?_)
                refine g_step_yes (j := 18) (t := 157) rfl rfl rfl rfl (s_val (v_loadl ty3 rfl rfl rfl rfl) rfl rfl ?_)
                refine g_step_yes (j := 18) (t := 157) rfl rfl rfl rfl (s_fieldAddr ty65 fo65_0 ty3 rfl rfl ?_)
                refine g_step_yes (j := 18) (t := 157) rfl rfl rfl rfl (s_val (v_loadl ty3 rfl rfl rfl rfl) rfl rfl ?_)
                refine g_step_yes (j := 18) (t := 157) rfl rfl rfl rfl (s_val (v_sub_ rfl rfl (by omega)) rfl rfl ?_)
                refine g_step_yes (j := 18) (t := 157) rfl rfl rfl rfl (s_val (v_neq rfl rfl) rfl rfl ?_)
                refine g_step rfl (s_val (v_pick_f rfl rfl) rfl rfl ?_)
                refine g_nil ?_
                refine g_next hK148 ?_
                refine g_cond rfl (fun hc164 => ?_) (fun hc164 => ?_)
                · try simp only [decide_eq_true_eq, decide_eq_false_iff_not, Bool.not_eq_true', Bool.not_eq_false', Bool.not_eq_eq_eq_not, Bool.not_true, Bool.not_false, Bool.and_eq_true, Bool.or_eq_true, Bool.or_eq_false_iff, beq_iff_eq, beq_eq_false_iff_ne, ne_eq, Int.not_lt, Int.not_le, Decidable.not_not] at hc164
                  refine g_seq (fun K152 hK152 => ?_)
                  refine g_region ?_
                  have hM : moveT me l a.rc.id a.rc.inc (a.k - 1) a.k = (l, false) := by cases hq : (rfind l a.rc.id).2; simp [moveT, rfind_no hq]; (rw [moveT, rfind_yes hq]; first | exact if_pos (by omega) | (exfalso; simp_all; done))
                  have hR : doL me room l a = (l, 0) := by rw [doL, if_neg hk0, if_pos hk12, hM]; rfl
                  refine g_step rfl (s_val (by first | exact v_loadl_all ty61 rfl rfl rfl rfl rfl | exact v_loadl_part (cs := [_, _, _]) ty61 rfl rfl rfl rfl rfl rfl) rfl rfl ?_)
                  refine g_step rfl (s_store_all ty61 rfl rfl rfl rfl rfl rfl ?_)
                  refine g_step rfl (s_val (v_assign rfl) rfl rfl ?_)
                  refine g_nil ?_
                  refine g_next hK152 ?_
                  refine g_ret ?_
                  refine g_then_ret ?_
                  refine g_then_ret ?_
                  refine g_end2 (.inl rfl) Try.results30 (.agg ty61 rfl rfl rfl rfl rfl) (.tmp rfl) [] (ASub.refl _) (AHeap.sub_refl _) (fun p hp => by cases hp) ⟨rfl, ?_⟩
                  first | (rw [hR]; rfl; done) | (rw [hR]; rfl; rfl)
                · try simp only [decide_eq_true_eq, decide_eq_false_iff_not, Bool.not_eq_true', Bool.not_eq_false', Bool.not_eq_eq_eq_not, Bool.not_true, Bool.not_false, Bool.and_eq_true, Bool.or_eq_true, Bool.or_eq_false_iff, beq_iff_eq, beq_eq_false_iff_ne, ne_eq, Int.not_lt, Int.not_le, Decidable.not_not] at hc164
                  refine g_skip ?_
                  refine g_next hK147 ?_
                  refine g_seq (fun K153 hK153 => ?_)
                  refine g_region ?_
                  have hy := rfind_yes (l := l) (id := a.rc.id) (by simp_all)
                  have hM : moveT me l a.rc.id a.rc.inc (a.k - 1) a.k = (rput l (withSt (rfind l a.rc.id).1 a.k), true) := by rw [moveT, hy]; exact if_neg (by omega)
                  have hR : doL me room l a = (rput l (withSt (rfind l a.rc.id).1 a.k), 1) := by rw [doL, if_neg hk0, if_pos hk12, hM]; rfl
                  refine g_step rfl (s_fieldAddr ty65 fo65_0 ty3 rfl rfl ?_)
                  refine g_step rfl (s_val (v_loadl ty3 rfl rfl rfl rfl) rfl rfl ?_)
                  refine g_step rfl (s_fieldAddr ty46 fo46_2 ty3 rfl rfl ?_)
                  refine g_step rfl (s_store (new := (encR (withSt (rfind l a.rc.id).1 a.k))) ty3 rfl rfl rfl rfl rfl rfl rfl ?_)
                  refine g_nil ?_
                  refine g_next hK153 ?_
                  refine g_seq (fun K154 hK154 => ?_)
                  refine g_region ?_
                  refine g_step rfl (s_fieldAddr ty61 fo61_2 ty22 rfl rfl ?_)
                  refine g_step rfl (s_val (v_loadl ty22 rfl rfl rfl rfl) rfl rfl ?_)
                  refine g_step rfl (s_val (by first | exact v_loadl_all ty46 rfl rfl rfl rfl rfl | exact v_loadl_part (cs := [_, _, _, _, _, _, _]) ty46 rfl rfl rfl rfl rfl rfl) rfl rfl ?_)
                  refine g_step rfl (s_callp rfl rfl rfl (put_ok l (withSt (rfind l a.rc.id).1 a.k) _ _ rfl (by omega) hs (hsY)) ?_)
                  rintro _ rfl
                  refine g_step rfl (s_fieldAddr ty61 fo61_2 ty22 rfl rfl ?_)
                  refine g_step rfl (s_store (new := (mdl me room (rput l (withSt (rfind l a.rc.id).1 a.k)))) ty22 rfl rfl rfl rfl rfl rfl rfl ?_)
                  refine g_nil ?_
                  refine g_next hK154 ?_
                  refine g_seq (fun K155 hK155 => ?_)
                  refine g_region ?_
                  refine g_step rfl (s_val (by first | exact v_loadl_all ty61 rfl rfl rfl rfl rfl | exact v_loadl_part (cs := [_, _, _]) ty61 rfl rfl rfl rfl rfl rfl) rfl rfl ?_)
                  refine g_step rfl (s_store_all ty61 rfl rfl rfl rfl rfl rfl ?_)
                  refine g_step rfl (s_val (v_assign rfl) rfl rfl ?_)
                  refine g_nil ?_
                  refine g_next hK155 ?_
                  first | refine g_keep [5] [4] [4] (keep_cons rfl keep_nil) (lkeep_cons rfl lkeep_nil) (keep_cons rfl keep_nil) rfl ?_ | refine g_keep [5] [4] [4] rfl rfl rfl rfl ?_
                  refine g_ret ?_
                  refine g_then_ret ?_
                  refine g_end2 (.inl rfl) Try.results30 (.agg ty61 rfl rfl rfl rfl rfl) (.tmp rfl) [] (ASub.refl _) (AHeap.sub_refl _) (fun p hp => by cases hp) ⟨rfl, ?_⟩
                  first | (rw [hR]; rfl; done) | (rw [hR]; rfl; rfl)
        · try simp only [decide_eq_true_eq, decide_eq_false_iff_not, Bool.not_eq_true', Bool.not_eq_false', Bool.not_eq_eq_eq_not, Bool.not_true, Bool.not_false, Bool.and_eq_true, Bool.or_eq_true, Bool.or_eq_false_iff, beq_iff_eq, beq_eq_false_iff_ne, ne_eq, Int.not_lt, Int.not_le, Decidable.not_not] at hc138
          refine g_skip ?_
          refine g_next hK136 ?_
          refine g_seq (fun K156 hK156 => ?_)
          refine g_seq (fun K157 hK157 => ?_)
          refine g_region ?_
          refine g_step rfl (s_fieldAddr ty65 fo65_0 ty3 rfl rfl ?_)
          refine g_step rfl (s_val (v_loadl ty3 rfl rfl rfl rfl) rfl rfl ?_)
          refine g_step rfl (s_val (v_eql rfl rfl) rfl rfl ?_)
          refine g_nil ?_
          refine g_next hK157 ?_
          refine g_cond rfl (fun hc177 => ?_) (fun hc177 => ?_)
          · try simp only [decide_eq_true_eq, decide_eq_false_iff_not, Bool.not_eq_true', Bool.not_eq_false', Bool.not_eq_eq_eq_not, Bool.not_true, Bool.not_false, Bool.and_eq_true, Bool.or_eq_true, Bool.or_eq_false_iff, beq_iff_eq, beq_eq_false_iff_ne, ne_eq, Int.not_lt, Int.not_le, Decidable.not_not] at hc177
            have hk12 : ¬ (a.k = 1 ∨ a.k = 2) := by omega
            have hk3 : a.k = 3 := by omega
            refine g_seq (fun K158 hK158 => ?_)
            refine g_seq (fun K159 hK159 => ?_)
            refine g_region ?_
            refine g_step rfl (s_fieldAddr ty65 fo65_1 ty46 rfl rfl ?_)
            refine g_step rfl (s_fieldAddr ty46 fo46_5 ty44 rfl rfl ?_)
            refine g_step rfl (s_val (v_loadl ty44 rfl rfl rfl rfl) rfl rfl ?_)
            refine g_step rfl (s_callp rfl rfl rfl (bagValid_ok a.rc.bag _ _ rfl hb) ?_)
            rintro _ rfl
            refine g_step rfl (s_val (v_not rfl) rfl rfl ?_)
            refine g_nil ?_
            refine g_next hK159 ?_
            refine g_cond rfl (fun hc182 => ?_) (fun hc182 => ?_)
            · try simp only [decide_eq_true_eq, decide_eq_false_iff_not, Bool.not_eq_true', Bool.not_eq_false', Bool.not_eq_eq_eq_not, Bool.not_true, Bool.not_false, Bool.and_eq_true, Bool.or_eq_true, Bool.or_eq_false_iff, beq_iff_eq, beq_eq_false_iff_ne, ne_eq, Int.not_lt, Int.not_le, Decidable.not_not] at hc182
              refine g_seq (fun K160 hK160 => ?_)
              refine g_region ?_
              have hR : doL me room l a = (l, 1) := by rw [doL, if_neg hk0, if_neg hk12, if_pos hk3, changeT]; exact if_pos (by simp_all)
              refine g_step rfl (s_val (by first | exact v_loadl_all ty61 rfl rfl rfl rfl rfl | exact v_loadl_part (cs := [_, _, _]) ty61 rfl rfl rfl rfl rfl rfl) rfl rfl ?_)
              refine g_step rfl (s_store_all ty61 rfl rfl rfl rfl rfl rfl ?_)
              refine g_step rfl (s_val (v_assign rfl) rfl rfl ?_)
              refine g_nil ?_
              refine g_next hK160 ?_
              refine g_ret ?_
              refine g_then_ret ?_
              refine g_then_ret ?_
              refine g_end2 (.inl rfl) Try.results30 (.agg ty61 rfl rfl rfl rfl rfl) (.tmp rfl) [] (ASub.refl _) (AHeap.sub_refl _) (fun p hp => by cases hp) ⟨rfl, ?_⟩
              first | (rw [hR]; rfl; done) | (rw [hR]; rfl; rfl)
            · try simp only [decide_eq_true_eq, decide_eq_false_iff_not, Bool.not_eq_true', Bool.not_eq_false', Bool.not_eq_eq_eq_not, Bool.not_true, Bool.not_false, Bool.and_eq_true, Bool.or_eq_true, Bool.or_eq_false_iff, beq_iff_eq, beq_eq_false_iff_ne, ne_eq, Int.not_lt, Int.not_le, Decidable.not_not] at hc182
              refine g_skip ?_
              refine g_next hK158 ?_
              refine g_seq (fun K161 hK161 => ?_)
              refine g_seq (fun K162 hK162 => ?_)
              refine g_region ?_
              have hvb : ¬ (bagValid a.rc.bag = false) := by simp_all
              have hC : doL me room l a = if o.st = 3 then (l, 15) else if 281474976710655 ≤ o.inc then (l, 6) else (rput l (wthBag o a.rc.bag), 0) := by rw [doL, if_neg hk0, if_neg hk12, if_pos hk3, changeT, if_neg hvb, ho]
              refine g_step rfl (s_fieldAddr ty46 fo46_2 ty3 rfl rfl ?_)
              refine g_step rfl (s_val (v_loadl ty3 rfl rfl rfl rfl) rfl rfl ?_)
              refine g_step rfl (s_val (v_eql rfl rfl) rfl rfl ?_)
              refine g_nil ?_
              refine g_next hK162 ?_
              refine g_cond rfl (fun hc186 => ?_) (fun hc186 => ?_)
              · try simp only [decide_eq_true_eq, decide_eq_false_iff_not, Bool.not_eq_true', Bool.not_eq_false', Bool.not_eq_eq_eq_not, Bool.not_true, Bool.not_false, Bool.and_eq_true, Bool.or_eq_true, Bool.or_eq_false_iff, beq_iff_eq, beq_eq_false_iff_ne, ne_eq, Int.not_lt, Int.not_le, Decidable.not_not] at hc186
                refine g_seq (fun K163 hK163 => ?_)
                refine g_region ?_
                have hR : doL me room l a = (l, 15) := by rw [hC, if_pos (by omega)]
                refine g_step rfl (s_val (by first | exact v_loadl_all ty61 rfl rfl rfl rfl rfl | exact v_loadl_part (cs := [_, _, _]) ty61 rfl rfl rfl rfl rfl rfl) rfl rfl ?_)
                refine g_step rfl (s_store_all ty61 rfl rfl rfl rfl rfl rfl ?_)
                refine g_step rfl (s_val (v_assign rfl) rfl rfl ?_)
                refine g_nil ?_
                refine g_next hK163 ?_
                refine g_ret ?_
                refine g_then_ret ?_
                refine g_then_ret ?_
                refine g_end2 (.inl rfl) Try.results30 (.agg ty61 rfl rfl rfl rfl rfl) (.tmp rfl) [] (ASub.refl _) (AHeap.sub_refl _) (fun p hp => by cases hp) ⟨rfl, ?_⟩
                first | (rw [hR]; rfl; done) | (rw [hR]; rfl; rfl)
              · try simp only [decide_eq_true_eq, decide_eq_false_iff_not, Bool.not_eq_true', Bool.not_eq_false', Bool.not_eq_eq_eq_not, Bool.not_true, Bool.not_false, Bool.and_eq_true, Bool.or_eq_true, Bool.or_eq_false_iff, beq_iff_eq, beq_eq_false_iff_ne, ne_eq, Int.not_lt, Int.not_le, Decidable.not_not] at hc186
                refine g_skip ?_
                refine g_next hK161 ?_
                refine g_seq (fun K164 hK164 => ?_)
                refine g_seq (fun K165 hK165 => ?_)
                refine g_region ?_
                refine g_step rfl (s_fieldAddr ty46 fo46_1 ty3 rfl rfl ?_)
                refine g_step rfl (s_val (v_loadl ty3 rfl rfl rfl rfl) rfl rfl ?_)
                refine g_step rfl (s_val (v_geq rfl rfl) rfl rfl ?_)
                refine g_nil ?_
                refine g_next hK165 ?_
                refine g_cond rfl (fun hc190 => ?_) (fun hc190 => ?_)
                · try simp only [decide_eq_true_eq, decide_eq_false_iff_not, Bool.not_eq_true', Bool.not_eq_false', Bool.not_eq_eq_eq_not, Bool.not_true, Bool.not_false, Bool.and_eq_true, Bool.or_eq_true, Bool.or_eq_false_iff, beq_iff_eq, beq_eq_false_iff_ne, ne_eq, Int.not_lt, Int.not_le, Decidable.not_not] at hc190
                  refine g_seq (fun K166 hK166 => ?_)
                  refine g_region ?_
                  have hR : doL me room l a = (l, 6) := by rw [hC, if_neg (by omega), if_pos (by omega)]
                  refine g_step rfl (s_val (by first | exact v_loadl_all ty61 rfl rfl rfl rfl rfl | exact v_loadl_part (cs := [_, _, _]) ty61 rfl rfl rfl rfl rfl rfl) rfl rfl ?_)
                  refine g_step rfl (s_store_all ty61 rfl rfl rfl rfl rfl rfl ?_)
                  refine g_step rfl (s_val (v_assign rfl) rfl rfl ?_)
                  refine g_nil ?_
                  refine g_next hK166 ?_
                  refine g_ret ?_
                  refine g_then_ret ?_
                  refine g_then_ret ?_
                  refine g_end2 (.inl rfl) Try.results30 (.agg ty61 rfl rfl rfl rfl rfl) (.tmp rfl) [] (ASub.refl _) (AHeap.sub_refl _) (fun p hp => by cases hp) ⟨rfl, ?_⟩
                  first | (rw [hR]; rfl; done) | (rw [hR]; rfl; rfl)
                · try simp only [decide_eq_true_eq, decide_eq_false_iff_not, Bool.not_eq_true', Bool.not_eq_false', Bool.not_eq_eq_eq_not, Bool.not_true, Bool.not_false, Bool.and_eq_true, Bool.or_eq_true, Bool.or_eq_false_iff, beq_iff_eq, beq_eq_false_iff_ne, ne_eq, Int.not_lt, Int.not_le, Decidable.not_not] at hc190
                  refine g_skip ?_
                  refine g_next hK164 ?_
                  refine g_seq (fun K167 hK167 => ?_)
                  refine g_region ?_
                  have hR : doL me room l a = (rput l (wthBag o a.rc.bag), 0) := by rw [hC, if_neg (by omega), if_neg (by omega)]
                  refine g_step rfl (s_fieldAddr ty46 fo46_1 ty3 rfl rfl ?_)
                  refine g_step rfl (s_val (v_loadl ty3 rfl rfl rfl rfl) rfl rfl ?_)
                  refine g_step rfl (s_val (v_add rfl rfl (by omega)) rfl rfl ?_)
                  refine g_step rfl (s_fieldAddr ty46 fo46_1 ty3 rfl rfl ?_)
                  refine g_step rfl (s_store (new := (encR (wthInc o (o.inc + 1)))) ty3 rfl rfl rfl rfl rfl rfl rfl ?_)
                  refine g_nil ?_
                  refine g_next hK167 ?_
                  refine g_seq (fun K168 hK168 => ?_)
                  refine g_region ?_
                  refine g_step rfl (s_fieldAddr ty46 fo46_4 ty4 rfl rfl ?_)
                  refine g_step rfl (s_store (new := (encR (⟨o.id, o.inc + 1, o.st, o.sp, false, o.bag⟩ : Rc))) ty4 rfl rfl rfl rfl rfl rfl rfl ?_)
                  refine g_nil ?_
                  refine g_next hK168 ?_
                  refine g_seq (fun K169 hK169 => ?_)
                  refine g_region ?_
                  refine g_step rfl (s_fieldAddr ty65 fo65_1 ty46 rfl rfl ?_)
                  refine g_step rfl (s_fieldAddr ty46 fo46_5 ty44 rfl rfl ?_)
                  refine g_step rfl (s_val (v_loadl ty44 rfl rfl rfl rfl) rfl rfl ?_)
                  refine g_step rfl (s_fieldAddr ty46 fo46_5 ty44 rfl rfl ?_)
                  refine g_step rfl (s_store (new := (encR (wthBag o a.rc.bag))) ty44 rfl rfl rfl rfl rfl rfl rfl ?_)
                  refine g_nil ?_
                  refine g_next hK169 ?_
                  refine g_seq (fun K170 hK170 => ?_)
                  refine g_region ?_
                  refine g_step rfl (s_fieldAddr ty61 fo61_2 ty22 rfl rfl ?_)
                  refine g_step rfl (s_val (v_loadl ty22 rfl rfl rfl rfl) rfl rfl ?_)
                  refine g_step rfl (s_val (by first | exact v_loadl_all ty46 rfl rfl rfl rfl rfl | exact v_loadl_part (cs := [_, _, _, _, _, _, _]) ty46 rfl rfl rfl rfl rfl rfl) rfl rfl ?_)
                  refine g_step rfl (s_callp rfl rfl rfl (put_ok l (wthBag o a.rc.bag) _ _ rfl (by omega) hs (hb)) ?_)
                  rintro _ rfl
                  refine g_step rfl (s_fieldAddr ty61 fo61_2 ty22 rfl rfl ?_)
                  refine g_step rfl (s_store (new := (mdl me room (rput l (wthBag o a.rc.bag)))) ty22 rfl rfl rfl rfl rfl rfl rfl ?_)
                  refine g_nil ?_
                  refine g_next hK170 ?_
                  refine g_seq (fun K171 hK171 => ?_)
                  refine g_region ?_
                  refine g_step rfl (s_val (by first | exact v_loadl_all ty61 rfl rfl rfl rfl rfl | exact v_loadl_part (cs := [_, _, _]) ty61 rfl rfl rfl rfl rfl rfl) rfl rfl ?_)
                  refine g_step rfl (s_store_all ty61 rfl rfl rfl rfl rfl rfl ?_)
                  refine g_step rfl (s_val (v_assign rfl) rfl rfl ?_)
                  refine g_nil ?_
                  refine g_next hK171 ?_
                  refine g_ret ?_
                  refine g_then_ret ?_
                  refine g_end2 (.inl rfl) Try.results30 (.agg ty61 rfl rfl rfl rfl rfl) (.tmp rfl) [] (ASub.refl _) (AHeap.sub_refl _) (fun p hp => by cases hp) ⟨rfl, ?_⟩
                  first | (rw [hR]; rfl; done) | (rw [hR]; rfl; rfl)
          · try simp only [decide_eq_true_eq, decide_eq_false_iff_not, Bool.not_eq_true', Bool.not_eq_false', Bool.not_eq_eq_eq_not, Bool.not_true, Bool.not_false, Bool.and_eq_true, Bool.or_eq_true, Bool.or_eq_false_iff, beq_iff_eq, beq_eq_false_iff_ne, ne_eq, Int.not_lt, Int.not_le, Decidable.not_not] at hc177
            have hk12 : ¬ (a.k = 1 ∨ a.k = 2) := by omega
            have hk3 : ¬ (a.k = 3) := by omega
            refine g_skip ?_
            refine g_next hK156 ?_
            refine g_seq (fun K172 hK172 => ?_)
            refine g_seq (fun K173 hK173 => ?_)
            refine g_region ?_
            refine g_step rfl (s_fieldAddr ty46 fo46_2 ty3 rfl rfl ?_)
            refine g_step rfl (s_val (v_loadl ty3 rfl rfl rfl rfl) rfl rfl ?_)
            refine g_step rfl (s_val (v_eql rfl rfl) rfl rfl ?_)
            refine g_nil ?_
            refine g_next hK173 ?_
            refine g_cond rfl (fun hc209 => ?_) (fun hc209 => ?_)
            · try simp only [decide_eq_true_eq, decide_eq_false_iff_not, Bool.not_eq_true', Bool.not_eq_false', Bool.not_eq_eq_eq_not, Bool.not_true, Bool.not_false, Bool.and_eq_true, Bool.or_eq_true, Bool.or_eq_false_iff, beq_iff_eq, beq_eq_false_iff_ne, ne_eq, Int.not_lt, Int.not_le, Decidable.not_not] at hc209
              refine g_seq (fun K174 hK174 => ?_)
              refine g_region ?_
              have hR : doL me room l a = (l, 0) := by rw [doL, if_neg hk0, if_neg hk12, if_neg hk3, leaveT, ho]; show ((if _ then (l, false) else _ : List Rc × Bool).1, oneI (if _ then (l, false) else _ : List Rc × Bool).2) = _; rw [if_pos (by omega)]; rfl
              refine g_step rfl (s_val (by first | exact v_loadl_all ty61 rfl rfl rfl rfl rfl | exact v_loadl_part (cs := [_, _, _]) ty61 rfl rfl rfl rfl rfl rfl) rfl rfl ?_)
              refine g_step rfl (s_store_all ty61 rfl rfl rfl rfl rfl rfl ?_)
              refine g_step rfl (s_val (v_assign rfl) rfl rfl ?_)
              refine g_nil ?_
              refine g_next hK174 ?_
              refine g_ret ?_
              refine g_then_ret ?_
              refine g_end2 (.inl rfl) Try.results30 (.agg ty61 rfl rfl rfl rfl rfl) (.tmp rfl) [] (ASub.refl _) (AHeap.sub_refl _) (fun p hp => by cases hp) ⟨rfl, ?_⟩
              first | (rw [hR]; rfl; done) | (rw [hR]; rfl; rfl)
            · try simp only [decide_eq_true_eq, decide_eq_false_iff_not, Bool.not_eq_true', Bool.not_eq_false', Bool.not_eq_eq_eq_not, Bool.not_true, Bool.not_false, Bool.and_eq_true, Bool.or_eq_true, Bool.or_eq_false_iff, beq_iff_eq, beq_eq_false_iff_ne, ne_eq, Int.not_lt, Int.not_le, Decidable.not_not] at hc209
              refine g_skip ?_
              refine g_next hK172 ?_
              refine g_seq (fun K175 hK175 => ?_)
              refine g_region ?_
              have hR : doL me room l a = (rput l (withSt o 3), 1) := by rw [doL, if_neg hk0, if_neg hk12, if_neg hk3, leaveT, ho]; show ((if _ then (l, false) else _ : List Rc × Bool).1, oneI (if _ then (l, false) else _ : List Rc × Bool).2) = _; rw [if_neg (by omega)]; rfl
              refine g_step rfl (s_fieldAddr ty46 fo46_2 ty3 rfl rfl ?_)
              refine g_step rfl (s_store (new := (encR (withSt o 3))) ty3 rfl rfl rfl rfl rfl rfl rfl ?_)
              refine g_nil ?_
              refine g_next hK175 ?_
              refine g_seq (fun K176 hK176 => ?_)
              refine g_region ?_
              refine g_step rfl (s_fieldAddr ty61 fo61_2 ty22 rfl rfl ?_)
              refine g_step rfl (s_val (v_loadl ty22 rfl rfl rfl rfl) rfl rfl ?_)
              refine g_step rfl (s_val (by first | exact v_loadl_all ty46 rfl rfl rfl rfl rfl | exact v_loadl_part (cs := [_, _, _, _, _, _, _]) ty46 rfl rfl rfl rfl rfl rfl) rfl rfl ?_)
              refine g_step rfl (s_callp rfl rfl rfl (put_ok l (withSt o 3) _ _ rfl (by omega) hs (hso)) ?_)
              rintro _ rfl
              refine g_step rfl (s_fieldAddr ty61 fo61_2 ty22 rfl rfl ?_)
              refine g_step rfl (s_store (new := (mdl me room (rput l (withSt o 3)))) ty22 rfl rfl rfl rfl rfl rfl rfl ?_)
              refine g_nil ?_
              refine g_next hK176 ?_
              refine g_seq (fun K177 hK177 => ?_)
              refine g_region ?_
              refine g_step rfl (s_val (by first | exact v_loadl_all ty61 rfl rfl rfl rfl rfl | exact v_loadl_part (cs := [_, _, _]) ty61 rfl rfl rfl rfl rfl rfl) rfl rfl ?_)
              refine g_step rfl (s_store_all ty61 rfl rfl rfl rfl rfl rfl ?_)
              refine g_step rfl (s_val (v_assign rfl) rfl rfl ?_)
              refine g_nil ?_
              refine g_next hK177 ?_
              refine g_ret ?_
              refine g_end2 (.inl rfl) Try.results30 (.agg ty61 rfl rfl rfl rfl rfl) (.tmp rfl) [] (ASub.refl _) (AHeap.sub_refl _) (fun p hp => by cases hp) ⟨rfl, ?_⟩
              first | (rw [hR]; rfl; done) | (rw [hR]; rfl; rfl)

theorem one25_ok (b : Bool) (G : AHeap) : PCalls Try.prog 66 [.bool b] G (fun v => v = .int .i64 (oneI b)) := by
  refine LCalls.intro 4 fi66 rfl Try.ntmps66 rfl (fun _ h => h.elim) (fun H hH w0 hw0 => ?_)
  refine g_seq (fun K0 hK0 => ?_)
  refine g_region ?_
  refine g_step rfl (s_val (v_assign rfl) rfl rfl ?_)
  refine g_nil ?_
  refine g_next hK0 ?_
  refine g_seq (fun K1 hK1 => ?_)
  refine g_seq (fun K2 hK2 => ?_)
  refine g_region ?_
  refine g_step rfl (s_val (v_move rfl) rfl rfl ?_)
  refine g_nil ?_
  refine g_next hK2 ?_
  refine g_cond rfl (fun hc3 => ?_) (fun hc3 => ?_)
  · try simp only [decide_eq_true_eq, decide_eq_false_iff_not, Bool.not_eq_true', Bool.not_eq_false', Bool.not_eq_eq_eq_not, Bool.not_true, Bool.not_false, Bool.and_eq_true, Bool.or_eq_true, Bool.or_eq_false_iff, beq_iff_eq, beq_eq_false_iff_ne, ne_eq, Int.not_lt, Int.not_le, Decidable.not_not] at hc3
    refine g_seq (fun K3 hK3 => ?_)
    refine g_region ?_
    refine g_step rfl (s_val (v_assign rfl) rfl rfl ?_)
    refine g_nil ?_
    refine g_next hK3 ?_
    refine g_ret ?_
    refine g_then_ret ?_
    refine g_end1 (.inl rfl) Try.results66 (.tmp rfl) [] (ASub.refl _) (AHeap.sub_refl _) (fun p hp => by cases hp) ⟨rfl, ?_⟩
    first | (simp_all [oneI]; done) | (simp_all [oneI]; rfl)
  · try simp only [decide_eq_true_eq, decide_eq_false_iff_not, Bool.not_eq_true', Bool.not_eq_false', Bool.not_eq_eq_eq_not, Bool.not_true, Bool.not_false, Bool.and_eq_true, Bool.or_eq_true, Bool.or_eq_false_iff, beq_iff_eq, beq_eq_false_iff_ne, ne_eq, Int.not_lt, Int.not_le, Decidable.not_not] at hc3
    refine g_skip ?_
    refine g_next hK1 ?_
    refine g_seq (fun K4 hK4 => ?_)
    refine g_region ?_
    refine g_step rfl (s_val (v_assign rfl) rfl rfl ?_)
    refine g_nil ?_
    refine g_next hK4 ?_
    refine g_ret ?_
    refine g_end1 (.inl rfl) Try.results66 (.tmp rfl) [] (ASub.refl _) (AHeap.sub_refl _) (fun p hp => by cases hp) ⟨rfl, ?_⟩
    first | (simp_all [oneI]; done) | (simp_all [oneI]; rfl)

theorem play25_ok (p r : Nat) (me room : Int) (l : List Rc) (a : Ac) (G : AHeap) (hT : Tb G p r me room l) (hm : MInv me room l) (hb : Small a.rc.bag) : LCalls Try.prog 31 [.box p 0, encAc a] G (fun b => b = p ∨ b = r) (fun n rv effs => rv = .int .i64 (doL me room l a).2 ∧ TE n p r me room l (doL me room l a).1 effs) := by
  refine LCalls.intro 47 fi31 rfl Try.ntmps31 rfl (by rintro b (rfl | rfl); rw [hT.tp]; simp; rw [hT.tr]; simp) (fun H hH w0 hw0 => ?_)
  have hT1 := hT.mono hH
  obtain ⟨o, ho⟩ := hm.o
  obtain ⟨i, hi, hf, hz⟩ := at_idx ho
  have hs := hm.b
  have hl : l.length ≤ 1000 := by have := hm.len; omega
  have ho9 := recValid_ids (hm.valid ho)
  refine g_seq (fun K0 hK0 => ?_)
  refine g_region ?_
  refine g_step rfl (s_box rfl rfl rfl rfl ?_)
  refine g_step rfl (s_val (v_assign rfl) rfl rfl ?_)
  refine g_nil ?_
  refine g_next hK0 ?_
  refine g_seq (fun K1 hK1 => ?_)
  refine g_seq (fun K2 hK2 => ?_)
  refine g_region ?_
  refine g_step rfl (s_fieldAddr ty65 fo65_0 ty3 rfl rfl ?_)
  refine g_step rfl (s_val (v_loadl ty3 rfl rfl rfl rfl) rfl rfl ?_)
  refine g_step rfl (s_val (v_eql rfl rfl) rfl rfl ?_)
  refine g_nil ?_
  refine g_next hK2 ?_
  refine g_cond rfl (fun hc7 => ?_) (fun hc7 => ?_)
  · try simp only [decide_eq_true_eq, decide_eq_false_iff_not, Bool.not_eq_true', Bool.not_eq_false', Bool.not_eq_eq_eq_not, Bool.not_true, Bool.not_false, Bool.and_eq_true, Bool.or_eq_true, Bool.or_eq_false_iff, beq_iff_eq, beq_eq_false_iff_ne, ne_eq, Int.not_lt, Int.not_le, Decidable.not_not] at hc7
    refine g_seq (fun K3 hK3 => ?_)
    refine g_region ?_
    refine g_step rfl (s_val (v_move rfl) rfl rfl ?_)
    refine g_step rfl (s_fieldAddr ty65 fo65_1 ty46 rfl rfl ?_)
    refine g_step rfl (s_val (v_loadl_part (cs := [_, _, _, _, _, _, _]) ty46 rfl rfl rfl rfl rfl rfl) rfl rfl ?_)
    refine g_step rfl (s_call rfl rfl rfl (mjoin_ok p r me room l a.rc hb _ hT1 hl hs i o hi hf hz ho) (fun b hb => .inl hb) ?_)
    rintro n1 rv1 effs1 hn1 hdom1 ⟨rfl, hTE⟩ hok1
    refine g_step rfl (s_val (v_assign rfl) rfl rfl ?_)
    refine g_nil ?_
    refine g_next hK3 ?_
    refine g_ret ?_
    refine g_then_ret ?_
    refine g_end1 (.inl rfl) Try.results31 (.tmp rfl) effs1 (ASub.refl _) (AHeap.sub_refl _) (fun z hz' => by rcases hTE.dom z hz' with h9 | h9 | h9; (left; rw [h9, hT.tp]; simp); (left; rw [h9, hT.tr]; simp); (right; exact Nat.le_trans hn1 h9)) (by rw [show doL me room l a = joinT me room l a.rc from by rw [doL, if_pos (by omega)]]; exact ⟨rfl, hTE.mono hn1⟩)
  · try simp only [decide_eq_true_eq, decide_eq_false_iff_not, Bool.not_eq_true', Bool.not_eq_false', Bool.not_eq_eq_eq_not, Bool.not_true, Bool.not_false, Bool.and_eq_true, Bool.or_eq_true, Bool.or_eq_false_iff, beq_iff_eq, beq_eq_false_iff_ne, ne_eq, Int.not_lt, Int.not_le, Decidable.not_not] at hc7
    refine g_skip ?_
    refine g_next hK1 ?_
    refine g_seq (fun K4 hK4 => ?_)
    refine g_seq (fun K5 hK5 => ?_)
    refine g_region ?_
    refine g_step rfl (s_fieldAddr ty65 fo65_0 ty3 rfl rfl ?_)
    refine g_step rfl (s_val (v_loadl ty3 rfl rfl rfl rfl) rfl rfl ?_)
    refine g_step rfl (s_val (v_eql rfl rfl) rfl rfl ?_)
    refine g_nil ?_
    refine g_next hK5 ?_
    refine g_cond rfl (fun hc14 => ?_) (fun hc14 => ?_)
    · try simp only [decide_eq_true_eq, decide_eq_false_iff_not, Bool.not_eq_true', Bool.not_eq_false', Bool.not_eq_eq_eq_not, Bool.not_true, Bool.not_false, Bool.and_eq_true, Bool.or_eq_true, Bool.or_eq_false_iff, beq_iff_eq, beq_eq_false_iff_ne, ne_eq, Int.not_lt, Int.not_le, Decidable.not_not] at hc14
      refine g_seq (fun K6 hK6 => ?_)
      refine g_region ?_
      refine g_step rfl (s_val (v_move rfl) rfl rfl ?_)
      refine g_step rfl (s_fieldAddr ty65 fo65_1 ty46 rfl rfl ?_)
      refine g_step rfl (s_fieldAddr ty46 fo46_0 ty3 rfl rfl ?_)
      refine g_step rfl (s_val (v_loadl ty3 rfl rfl rfl rfl) rfl rfl ?_)
      refine g_step rfl (s_fieldAddr ty65 fo65_1 ty46 rfl rfl ?_)
      refine g_step rfl (s_fieldAddr ty46 fo46_1 ty3 rfl rfl ?_)
      refine g_step rfl (s_val (v_loadl ty3 rfl rfl rfl rfl) rfl rfl ?_)
      refine g_step rfl (s_call rfl rfl rfl (suspect_ok p r me room l a.rc.id a.rc.inc _ hT1 hl hs) (fun b hb => .inl hb) ?_)
      rintro n1 rv1 effs1 hn1 hdom1 ⟨rfl, hTE⟩ hok1
      refine g_step rfl (s_callp rfl rfl rfl (one25_ok _ _) ?_)
      rintro _ rfl
      refine g_step rfl (s_val (v_assign rfl) rfl rfl ?_)
      refine g_nil ?_
      refine g_next hK6 ?_
      refine g_ret ?_
      refine g_then_ret ?_
      refine g_end1 (.inl rfl) Try.results31 (.tmp rfl) effs1 (ASub.refl _) (AHeap.sub_refl _) (fun z hz' => by rcases hTE.dom z hz' with h9 | h9 | h9; (left; rw [h9, hT.tp]; simp); (left; rw [h9, hT.tr]; simp); (right; exact Nat.le_trans hn1 h9)) (by rw [show doL me room l a = ((moveT me l a.rc.id a.rc.inc 0 1).1, oneI (moveT me l a.rc.id a.rc.inc 0 1).2) from by rw [doL, if_neg (by omega), if_pos (by omega), show a.k = 1 by omega]; rfl]; exact ⟨rfl, hTE.mono hn1⟩)
    · try simp only [decide_eq_true_eq, decide_eq_false_iff_not, Bool.not_eq_true', Bool.not_eq_false', Bool.not_eq_eq_eq_not, Bool.not_true, Bool.not_false, Bool.and_eq_true, Bool.or_eq_true, Bool.or_eq_false_iff, beq_iff_eq, beq_eq_false_iff_ne, ne_eq, Int.not_lt, Int.not_le, Decidable.not_not] at hc14
      refine g_skip ?_
      refine g_next hK4 ?_
      refine g_seq (fun K7 hK7 => ?_)
      refine g_seq (fun K8 hK8 => ?_)
      refine g_region ?_
      refine g_step rfl (s_fieldAddr ty65 fo65_0 ty3 rfl rfl ?_)
      refine g_step rfl (s_val (v_loadl ty3 rfl rfl rfl rfl) rfl rfl ?_)
      refine g_step rfl (s_val (v_eql rfl rfl) rfl rfl ?_)
      refine g_nil ?_
      refine g_next hK8 ?_
      refine g_cond rfl (fun hc26 => ?_) (fun hc26 => ?_)
      · try simp only [decide_eq_true_eq, decide_eq_false_iff_not, Bool.not_eq_true', Bool.not_eq_false', Bool.not_eq_eq_eq_not, Bool.not_true, Bool.not_false, Bool.and_eq_true, Bool.or_eq_true, Bool.or_eq_false_iff, beq_iff_eq, beq_eq_false_iff_ne, ne_eq, Int.not_lt, Int.not_le, Decidable.not_not] at hc26
        refine g_seq (fun K9 hK9 => ?_)
        refine g_region ?_
        refine g_step rfl (s_val (v_move rfl) rfl rfl ?_)
        refine g_step rfl (s_fieldAddr ty65 fo65_1 ty46 rfl rfl ?_)
        refine g_step rfl (s_fieldAddr ty46 fo46_0 ty3 rfl rfl ?_)
        refine g_step rfl (s_val (v_loadl ty3 rfl rfl rfl rfl) rfl rfl ?_)
        refine g_step rfl (s_fieldAddr ty65 fo65_1 ty46 rfl rfl ?_)
        refine g_step rfl (s_fieldAddr ty46 fo46_1 ty3 rfl rfl ?_)
        refine g_step rfl (s_val (v_loadl ty3 rfl rfl rfl rfl) rfl rfl ?_)
        refine g_step rfl (s_call rfl rfl rfl (bury_ok p r me room l a.rc.id a.rc.inc _ hT1 hl hs) (fun b hb => .inl hb) ?_)
        rintro n1 rv1 effs1 hn1 hdom1 ⟨rfl, hTE⟩ hok1
        refine g_step rfl (s_callp rfl rfl rfl (one25_ok _ _) ?_)
        rintro _ rfl
        refine g_step rfl (s_val (v_assign rfl) rfl rfl ?_)
        refine g_nil ?_
        refine g_next hK9 ?_
        refine g_ret ?_
        refine g_then_ret ?_
        refine g_end1 (.inl rfl) Try.results31 (.tmp rfl) effs1 (ASub.refl _) (AHeap.sub_refl _) (fun z hz' => by rcases hTE.dom z hz' with h9 | h9 | h9; (left; rw [h9, hT.tp]; simp); (left; rw [h9, hT.tr]; simp); (right; exact Nat.le_trans hn1 h9)) (by rw [show doL me room l a = ((moveT me l a.rc.id a.rc.inc 1 2).1, oneI (moveT me l a.rc.id a.rc.inc 1 2).2) from by rw [doL, if_neg (by omega), if_pos (by omega), show a.k = 2 by omega]; rfl]; exact ⟨rfl, hTE.mono hn1⟩)
      · try simp only [decide_eq_true_eq, decide_eq_false_iff_not, Bool.not_eq_true', Bool.not_eq_false', Bool.not_eq_eq_eq_not, Bool.not_true, Bool.not_false, Bool.and_eq_true, Bool.or_eq_true, Bool.or_eq_false_iff, beq_iff_eq, beq_eq_false_iff_ne, ne_eq, Int.not_lt, Int.not_le, Decidable.not_not] at hc26
        refine g_skip ?_
        refine g_next hK7 ?_
        refine g_seq (fun K10 hK10 => ?_)
        refine g_seq (fun K11 hK11 => ?_)
        refine g_region ?_
        refine g_step rfl (s_fieldAddr ty65 fo65_0 ty3 rfl rfl ?_)
        refine g_step rfl (s_val (v_loadl ty3 rfl rfl rfl rfl) rfl rfl ?_)
        refine g_step rfl (s_val (v_eql rfl rfl) rfl rfl ?_)
        refine g_nil ?_
        refine g_next hK11 ?_
        refine g_cond rfl (fun hc38 => ?_) (fun hc38 => ?_)
        · try simp only [decide_eq_true_eq, decide_eq_false_iff_not, Bool.not_eq_true', Bool.not_eq_false', Bool.not_eq_eq_eq_not, Bool.not_true, Bool.not_false, Bool.and_eq_true, Bool.or_eq_true, Bool.or_eq_false_iff, beq_iff_eq, beq_eq_false_iff_ne, ne_eq, Int.not_lt, Int.not_le, Decidable.not_not] at hc38
          refine g_seq (fun K12 hK12 => ?_)
          refine g_region ?_
          refine g_step rfl (s_val (v_move rfl) rfl rfl ?_)
          refine g_step rfl (s_fieldAddr ty65 fo65_1 ty46 rfl rfl ?_)
          refine g_step rfl (s_fieldAddr ty46 fo46_5 ty44 rfl rfl ?_)
          refine g_step rfl (s_val (v_loadl ty44 rfl rfl rfl rfl) rfl rfl ?_)
          refine g_step rfl (s_call rfl rfl rfl (change_ok p r me room l a.rc.bag hb _ hT1 hl hs i o hi hf hz ho ho9.2.2.1) (fun b hb => .inl hb) ?_)
          rintro n1 rv1 effs1 hn1 hdom1 ⟨rfl, hTE⟩ hok1
          refine g_step rfl (s_val (v_assign rfl) rfl rfl ?_)
          refine g_nil ?_
          refine g_next hK12 ?_
          refine g_ret ?_
          refine g_then_ret ?_
          refine g_end1 (.inl rfl) Try.results31 (.tmp rfl) effs1 (ASub.refl _) (AHeap.sub_refl _) (fun z hz' => by rcases hTE.dom z hz' with h9 | h9 | h9; (left; rw [h9, hT.tp]; simp); (left; rw [h9, hT.tr]; simp); (right; exact Nat.le_trans hn1 h9)) (by rw [show doL me room l a = changeT me l a.rc.bag from by rw [doL, if_neg (by omega), if_neg (by omega), if_pos (by omega)]]; exact ⟨rfl, hTE.mono hn1⟩)
        · try simp only [decide_eq_true_eq, decide_eq_false_iff_not, Bool.not_eq_true', Bool.not_eq_false', Bool.not_eq_eq_eq_not, Bool.not_true, Bool.not_false, Bool.and_eq_true, Bool.or_eq_true, Bool.or_eq_false_iff, beq_iff_eq, beq_eq_false_iff_ne, ne_eq, Int.not_lt, Int.not_le, Decidable.not_not] at hc38
          refine g_skip ?_
          refine g_next hK10 ?_
          refine g_seq (fun K13 hK13 => ?_)
          refine g_region ?_
          refine g_step rfl (s_val (v_move rfl) rfl rfl ?_)
          refine g_step rfl (s_call rfl rfl rfl (leave_ok p r me room l _ hT1 hl hs i o hi hf hz ho) (fun b hb => .inl hb) ?_)
          rintro n1 rv1 effs1 hn1 hdom1 ⟨rfl, hTE⟩ hok1
          refine g_step rfl (s_callp rfl rfl rfl (one25_ok _ _) ?_)
          rintro _ rfl
          refine g_step rfl (s_val (v_assign rfl) rfl rfl ?_)
          refine g_nil ?_
          refine g_next hK13 ?_
          refine g_ret ?_
          refine g_end1 (.inl rfl) Try.results31 (.tmp rfl) effs1 (ASub.refl _) (AHeap.sub_refl _) (fun z hz' => by rcases hTE.dom z hz' with h9 | h9 | h9; (left; rw [h9, hT.tp]; simp); (left; rw [h9, hT.tr]; simp); (right; exact Nat.le_trans hn1 h9)) (by rw [show doL me room l a = ((leaveT me l).1, oneI (leaveT me l).2) from by rw [doL, if_neg (by omega), if_neg (by omega), if_neg (by omega)]]; exact ⟨rfl, hTE.mono hn1⟩)

end Go.Proofs.Ytgipbhfblmblcaa

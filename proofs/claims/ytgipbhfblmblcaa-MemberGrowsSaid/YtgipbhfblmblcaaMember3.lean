import Derived.Test.YtgipbhfblmblcaaMember2
set_option maxHeartbeats 8000000
set_option linter.unusedSimpArgs false
set_option linter.unusedVariables false
set_option maxRecDepth 100000
namespace Go.Proofs.Ytgipbhfblmblcaa
open Go Go.Proofs.Ytgipbhfblmblcaa.AM
theorem awake25_ok (G : AHeap) : PCalls Try.prog 23 [] G (fun v => v = .bool true) := by
  refine LCalls.intro 45 fi23 rfl Try.ntmps23 rfl (fun _ h => h.elim) (fun H hH w0 hw0 => ?_)
  refine g_seq (fun K0 hK0 => ?_)
  refine g_region ?_
  refine g_step rfl (s_val (v_assign rfl) rfl rfl ?_)
  refine g_nil ?_
  refine g_next hK0 ?_
  refine g_seq (fun K1 hK1 => ?_)
  refine g_region ?_
  refine g_step rfl (s_val (v_sub (b := (encSp ⟨1, 1⟩)) (v_build (vs := [(0, _), (1, _)]) (zs := [(.int .i64 0), (.int .i64 0)]) (cells := [_, _]) ty43 pl43 rfl rfl rfl) (ASub.of_wk rfl)) rfl rfl ?_)
  refine g_step rfl (s_alloc (av := (.agg [(.int .i64 0), (.int .i64 0)])) ty43 rfl rfl rfl rfl ?_)
  refine g_step rfl (s_store_all ty43 rfl rfl rfl rfl rfl rfl ?_)
  refine g_nil ?_
  refine g_next hK1 ?_
  refine g_seq (fun K2 hK2 => ?_)
  refine g_region ?_
  refine g_step rfl (s_val (by first | exact v_loadl_all ty43 rfl rfl rfl rfl rfl | exact v_loadl_part (cs := [_, _]) ty43 rfl rfl rfl rfl rfl rfl) rfl rfl ?_)
  refine g_step rfl (s_val (v_sub (b := (encR ⟨3, 5, 0, ⟨1, 1⟩, false, []⟩)) (v_build (vs := [(0, _), (1, _), (3, _)]) (zs := [(.int .i64 0), (.int .i64 0), (.int .i64 0), (.int .i64 0), (.int .i64 0), (.bool false), .nil0]) (cells := [_, _, _, _, _, _, _]) ty46 pl46 rfl rfl rfl) (ASub.of_wk rfl)) rfl rfl ?_)
  refine g_step rfl (s_call rfl rfl rfl (begin_ok (⟨3, 5, 0, ⟨1, 1⟩, false, []⟩ : Rc) 1 _ (by simp [Small, bsize]) (by decide) rfl (by decide) (by decide)) (fun _ h => h.elim) ?_)
  rintro n1 rv1 effs1 hn1 hdom1 ⟨p, q, hp1, hq1, hpq, rfl, rfl⟩ hok1
  obtain ⟨r, hT, hnp, hnr, hsub⟩ := begin_st (own := (⟨3, 5, 0, ⟨1, 1⟩, false, []⟩ : Rc)) (room := 1) hw0 (G := H) (AHeap.sub_refl _) (Nat.le_trans hn1 hp1) (Nat.le_trans hn1 hq1) hpq
  generalize setAll H _ = G1 at hT hsub ⊢
  refine g_step rfl (s_val (v_move rfl) rfl rfl ?_)
  refine g_step rfl (s_val (v_extract rfl rfl) rfl rfl ?_)
  refine g_step rfl (s_val (v_extract rfl rfl) rfl rfl ?_)
  refine g_step rfl (s_val (v_assign rfl) rfl rfl ?_)
  refine g_step rfl (s_val (v_assign rfl) rfl rfl ?_)
  refine g_nil ?_
  refine g_next hK2 ?_
  refine g_seq (fun K3 hK3 => ?_)
  refine g_seq (fun K4 hK4 => ?_)
  refine g_region ?_
  refine g_step rfl (s_val (v_move rfl) rfl rfl ?_)
  refine g_step rfl (s_val (v_neq rfl rfl) rfl rfl ?_)
  refine g_step rfl (s_val (v_move rfl) rfl rfl ?_)
  refine g_split 15 rfl (fun hg15 => ?_) (fun hg15 => ?_)
  · exfalso; (try simp only [decide_eq_true_eq, decide_eq_false_iff_not, Bool.not_eq_true', Bool.not_eq_false', Bool.not_eq_eq_eq_not, Bool.not_true, Bool.not_false, Bool.and_eq_true, Bool.or_eq_true, Bool.or_eq_false_iff, beq_iff_eq, beq_eq_false_iff_ne, ne_eq, Int.not_lt, Int.not_le, Decidable.not_not] at hg15); simp at hg15
  · try simp only [decide_eq_true_eq, decide_eq_false_iff_not, Bool.not_eq_true', Bool.not_eq_false', Bool.not_eq_eq_eq_not, Bool.not_true, Bool.not_false, Bool.and_eq_true, Bool.or_eq_true, Bool.or_eq_false_iff, beq_iff_eq, beq_eq_false_iff_ne, ne_eq, Int.not_lt, Int.not_le, Decidable.not_not] at hg15
    refine g_step_yes (j := 2) (t := 15) rfl rfl rfl rfl (s_val (v_move rfl) rfl rfl ?_)
    refine g_step_yes (j := 2) (t := 15) rfl rfl rfl rfl (s_val (by first | exact v_ptr_eql_nil ty48 rfl rfl rfl | exact v_nil_eql_nil ty48 rfl rfl | exact v_ptrO_eql ty48 rfl rfl) rfl rfl ?_)
    refine g_step rfl (s_val (v_pick_f rfl rfl) rfl rfl ?_)
    refine g_nil ?_
    refine g_next hK4 ?_
    refine g_cond rfl (fun hc18 => ?_) (fun hc18 => ?_)
    · exfalso; (try simp only [decide_eq_true_eq, decide_eq_false_iff_not, Bool.not_eq_true', Bool.not_eq_false', Bool.not_eq_eq_eq_not, Bool.not_true, Bool.not_false, Bool.and_eq_true, Bool.or_eq_true, Bool.or_eq_false_iff, beq_iff_eq, beq_eq_false_iff_ne, ne_eq, Int.not_lt, Int.not_le, Decidable.not_not] at hc18); simp at hc18
    · try simp only [decide_eq_true_eq, decide_eq_false_iff_not, Bool.not_eq_true', Bool.not_eq_false', Bool.not_eq_eq_eq_not, Bool.not_true, Bool.not_false, Bool.and_eq_true, Bool.or_eq_true, Bool.or_eq_false_iff, beq_iff_eq, beq_eq_false_iff_ne, ne_eq, Int.not_lt, Int.not_le, Decidable.not_not] at hc18
      refine g_skip ?_
      refine g_next hK3 ?_
      refine g_seq (fun K5 hK5 => ?_)
      refine g_region ?_
      refine g_step rfl (s_val (v_move rfl) rfl rfl ?_)
      refine g_step rfl (s_val (by first | exact v_loadl_all ty43 rfl rfl rfl rfl rfl | exact v_loadl_part (cs := [_, _]) ty43 rfl rfl rfl rfl rfl rfl) rfl rfl ?_)
      refine g_step rfl (s_val (v_sub (b := (encR ⟨3, 5, 1, ⟨1, 1⟩, false, []⟩)) (v_build (vs := [(0, _), (1, _), (2, _), (3, _)]) (zs := [(.int .i64 0), (.int .i64 0), (.int .i64 0), (.int .i64 0), (.int .i64 0), (.bool false), .nil0]) (cells := [_, _, _, _, _, _, _]) ty46 pl46 rfl rfl rfl) (ASub.of_wk rfl)) rfl rfl ?_)
      refine g_step rfl (s_call rfl rfl rfl (mjoin_ok p r 3 1 [(⟨3, 5, 0, ⟨1, 1⟩, false, []⟩ : Rc)] ⟨3, 5, 1, ⟨1, 1⟩, false, []⟩ (by simp [Small, bsize]) _ hT (by simp) (by simp [Small, bsize]) 0 ⟨3, 5, 0, ⟨1, 1⟩, false, []⟩ rfl rfl rfl rfl) (fun b hb => .inr (by rcases hb with rfl | rfl; exact hnp; exact hnr)) ?_)
      rintro n2 rv2 effs2 hn2 hdom2 ⟨rfl, hTE⟩ hok2
      obtain ⟨r, hT, hnp, hnr, hsub⟩ := MSt.step hw0 hT hnp hnr hsub hn2 hdom2 hTE
      clear hTE hok2
      generalize setAll _ effs2 = G2 at hT hsub ⊢
      have hJ : joinT 3 1 [(⟨3, 5, 0, ⟨1, 1⟩, false, []⟩ : Rc)] (⟨3, 5, 1, ⟨1, 1⟩, false, []⟩ : Rc) = ([⟨3, 6, 0, ⟨1, 1⟩, false, []⟩], 4) := by decide
      rw [hJ] at hT ⊢
      refine g_step rfl (s_val (v_assign rfl) rfl rfl ?_)
      refine g_nil ?_
      refine g_next hK5 ?_
      refine g_seq (fun K6 hK6 => ?_)
      refine g_region ?_
      refine g_step rfl (s_val (v_move rfl) rfl rfl ?_)
      refine g_step rfl (s_val (by first | exact v_loadl_all ty43 rfl rfl rfl rfl rfl | exact v_loadl_part (cs := [_, _]) ty43 rfl rfl rfl rfl rfl rfl) rfl rfl ?_)
      refine g_step rfl (s_val (v_sub (b := (encR ⟨4, 0, 0, ⟨1, 1⟩, false, []⟩)) (v_build (vs := [(0, _), (3, _)]) (zs := [(.int .i64 0), (.int .i64 0), (.int .i64 0), (.int .i64 0), (.int .i64 0), (.bool false), .nil0]) (cells := [_, _, _, _, _, _, _]) ty46 pl46 rfl rfl rfl) (ASub.of_wk rfl)) rfl rfl ?_)
      refine g_step rfl (s_call rfl rfl rfl (mjoin_ok p r 3 1 [(⟨3, 6, 0, ⟨1, 1⟩, false, []⟩ : Rc)] ⟨4, 0, 0, ⟨1, 1⟩, false, []⟩ (by simp [Small, bsize]) _ hT (by simp) (by simp [Small, bsize]) 0 ⟨3, 6, 0, ⟨1, 1⟩, false, []⟩ rfl rfl rfl rfl) (fun b hb => .inr (by rcases hb with rfl | rfl; exact hnp; exact hnr)) ?_)
      rintro n2 rv2 effs2 hn2 hdom2 ⟨rfl, hTE⟩ hok2
      obtain ⟨r, hT, hnp, hnr, hsub⟩ := MSt.step hw0 hT hnp hnr hsub hn2 hdom2 hTE
      clear hTE hok2
      generalize setAll _ effs2 = G2 at hT hsub ⊢
      have hJ : joinT 3 1 [(⟨3, 6, 0, ⟨1, 1⟩, false, []⟩ : Rc)] (⟨4, 0, 0, ⟨1, 1⟩, false, []⟩ : Rc) = ([⟨3, 6, 0, ⟨1, 1⟩, false, []⟩], 3) := by decide
      rw [hJ] at hT ⊢
      refine g_step rfl (s_val (v_assign rfl) rfl rfl ?_)
      refine g_nil ?_
      refine g_next hK6 ?_
      first | refine g_keep [2, 4, 5] [] [] (keep_cons rfl (keep_cons rfl (keep_cons rfl keep_nil))) lkeep_nil keep_nil rfl ?_ | refine g_keep [2, 4, 5] [] [] rfl rfl rfl rfl ?_
      refine g_seq (fun K7 hK7 => ?_)
      refine g_region ?_
      refine g_step rfl (s_val (v_move rfl) rfl rfl ?_)
      refine g_step rfl (s_val (v_eql rfl rfl) rfl rfl ?_)
      refine g_step rfl (s_val (v_move rfl) rfl rfl ?_)
      refine g_split 29 rfl (fun hg29 => ?_) (fun hg29 => ?_)
      · try simp only [decide_eq_true_eq, decide_eq_false_iff_not, Bool.not_eq_true', Bool.not_eq_false', Bool.not_eq_eq_eq_not, Bool.not_true, Bool.not_false, Bool.and_eq_true, Bool.or_eq_true, Bool.or_eq_false_iff, beq_iff_eq, beq_eq_false_iff_ne, ne_eq, Int.not_lt, Int.not_le, Decidable.not_not] at hg29
        refine g_step_yes (j := 2) (t := 29) rfl rfl rfl rfl (s_val (v_move rfl) rfl rfl ?_)
        refine g_step_yes (j := 2) (t := 29) rfl rfl rfl rfl (s_callp rfl rfl rfl (mself_ok p r 3 1 [(⟨3, 6, 0, ⟨1, 1⟩, false, []⟩ : Rc)] _ hT (by simp) (by simp [Small, bsize])) ?_)
        rintro _ rfl
        rw [rfind_one (⟨3, 6, 0, ⟨1, 1⟩, false, []⟩ : Rc) rfl]
        refine g_step_yes (j := 2) (t := 29) rfl rfl rfl rfl (s_val (v_field ty46 fo46_1 ty3 rfl rfl rfl) rfl rfl ?_)
        refine g_step_yes (j := 2) (t := 29) rfl rfl rfl rfl (s_val (v_eql rfl rfl) rfl rfl ?_)
        refine g_step rfl (s_val (v_pick_t rfl rfl) rfl rfl ?_)
        refine g_step rfl (s_val (v_move rfl) rfl rfl ?_)
        refine g_split 35 rfl (fun hg35 => ?_) (fun hg35 => ?_)
        · try simp only [decide_eq_true_eq, decide_eq_false_iff_not, Bool.not_eq_true', Bool.not_eq_false', Bool.not_eq_eq_eq_not, Bool.not_true, Bool.not_false, Bool.and_eq_true, Bool.or_eq_true, Bool.or_eq_false_iff, beq_iff_eq, beq_eq_false_iff_ne, ne_eq, Int.not_lt, Int.not_le, Decidable.not_not] at hg35
          refine g_step_yes (j := 8) (t := 35) rfl rfl rfl rfl (s_val (v_move rfl) rfl rfl ?_)
          refine g_step_yes (j := 8) (t := 35) rfl rfl rfl rfl (s_callp rfl rfl rfl (mself_ok p r 3 1 [(⟨3, 6, 0, ⟨1, 1⟩, false, []⟩ : Rc)] _ hT (by simp) (by simp [Small, bsize])) ?_)
          rintro _ rfl
          rw [rfind_one (⟨3, 6, 0, ⟨1, 1⟩, false, []⟩ : Rc) rfl]
          refine g_step_yes (j := 8) (t := 35) rfl rfl rfl rfl (s_val (v_field ty46 fo46_2 ty3 rfl rfl rfl) rfl rfl ?_)
          refine g_step_yes (j := 8) (t := 35) rfl rfl rfl rfl (s_val (v_eql rfl rfl) rfl rfl ?_)
          refine g_step rfl (s_val (v_pick_t rfl rfl) rfl rfl ?_)
          refine g_step rfl (s_val (v_move rfl) rfl rfl ?_)
          refine g_split 41 rfl (fun hg41 => ?_) (fun hg41 => ?_)
          · try simp only [decide_eq_true_eq, decide_eq_false_iff_not, Bool.not_eq_true', Bool.not_eq_false', Bool.not_eq_eq_eq_not, Bool.not_true, Bool.not_false, Bool.and_eq_true, Bool.or_eq_true, Bool.or_eq_false_iff, beq_iff_eq, beq_eq_false_iff_ne, ne_eq, Int.not_lt, Int.not_le, Decidable.not_not] at hg41
            refine g_step_yes (j := 14) (t := 41) rfl rfl rfl rfl (s_val (v_move rfl) rfl rfl ?_)
            refine g_step_yes (j := 14) (t := 41) rfl rfl rfl rfl (s_val (v_eql rfl rfl) rfl rfl ?_)
            refine g_step rfl (s_val (v_pick_t rfl rfl) rfl rfl ?_)
            refine g_step rfl (s_val (v_assign rfl) rfl rfl ?_)
            refine g_nil ?_
            refine g_next hK7 ?_
            refine g_ret ?_
            refine g_end1 (.inl rfl) Try.results23 (.tmp rfl) [] (ASub.refl _) hsub (fun p hp => by cases hp) ⟨rfl, ?_⟩
            rfl
          · exfalso; (try simp only [decide_eq_true_eq, decide_eq_false_iff_not, Bool.not_eq_true', Bool.not_eq_false', Bool.not_eq_eq_eq_not, Bool.not_true, Bool.not_false, Bool.and_eq_true, Bool.or_eq_true, Bool.or_eq_false_iff, beq_iff_eq, beq_eq_false_iff_ne, ne_eq, Int.not_lt, Int.not_le, Decidable.not_not] at hg41); simp at hg41
        · exfalso; (try simp only [decide_eq_true_eq, decide_eq_false_iff_not, Bool.not_eq_true', Bool.not_eq_false', Bool.not_eq_eq_eq_not, Bool.not_true, Bool.not_false, Bool.and_eq_true, Bool.or_eq_true, Bool.or_eq_false_iff, beq_iff_eq, beq_eq_false_iff_ne, ne_eq, Int.not_lt, Int.not_le, Decidable.not_not] at hg35); simp at hg35
      · exfalso; (try simp only [decide_eq_true_eq, decide_eq_false_iff_not, Bool.not_eq_true', Bool.not_eq_false', Bool.not_eq_eq_eq_not, Bool.not_true, Bool.not_false, Bool.and_eq_true, Bool.or_eq_true, Bool.or_eq_false_iff, beq_iff_eq, beq_eq_false_iff_ne, ne_eq, Int.not_lt, Int.not_le, Decidable.not_not] at hg29); simp at hg29

theorem memberRefutes_ok (a b : Rc) (hha : Held a.bag) (hhb : Held b.bag) (G : AHeap) : PCalls Try.prog 6 [encR a, encR b] G (fun v => v = .bool true) := by
  refine LCalls.intro 115 fi6 rfl Try.ntmps6 rfl (fun _ h => h.elim) (fun H hH w0 hw0 => ?_)
  refine g_seq (fun K0 hK0 => ?_)
  refine g_region ?_
  refine g_step rfl (s_box rfl rfl rfl rfl ?_)
  refine g_step rfl (s_box rfl rfl rfl rfl ?_)
  refine g_step rfl (s_val (v_assign rfl) rfl rfl ?_)
  refine g_nil ?_
  refine g_next hK0 ?_
  refine g_seq (fun K1 hK1 => ?_)
  refine g_seq (fun K2 hK2 => ?_)
  refine g_region ?_
  refine g_step rfl (s_val (by first | exact v_loadl_all ty46 rfl rfl rfl rfl rfl | exact v_loadl_part (cs := [_, _, _, _, _, _, _]) ty46 rfl rfl rfl rfl rfl rfl) rfl rfl ?_)
  refine g_step rfl (s_val (by first | exact v_loadl_all ty46 rfl rfl rfl rfl rfl | exact v_loadl_part (cs := [_, _, _, _, _, _, _]) ty46 rfl rfl rfl rfl rfl rfl) rfl rfl ?_)
  refine g_step rfl (s_lit ty22 ty46 rfl rfl rfl rfl rfl rfl rfl ?_)
  refine g_step rfl (s_callp rfl rfl rfl (fewL_ok [a, b] _ _ rfl (by simp; exact ⟨hha, hhb⟩) (by simp)) ?_)
  rintro _ rfl
  refine g_step rfl (s_val (v_not rfl) rfl rfl ?_)
  refine g_step rfl (s_val (v_move rfl) rfl rfl ?_)
  refine g_split 16 rfl (fun hg16 => ?_) (fun hg16 => ?_)
  · try simp only [decide_eq_true_eq, decide_eq_false_iff_not, Bool.not_eq_true', Bool.not_eq_false', Bool.not_eq_eq_eq_not, Bool.not_true, Bool.not_false, Bool.and_eq_true, Bool.or_eq_true, Bool.or_eq_false_iff, beq_iff_eq, beq_eq_false_iff_ne, ne_eq, Int.not_lt, Int.not_le, Decidable.not_not] at hg16
    refine g_step_no (j := 5) (t := 16) rfl rfl rfl rfl rfl rfl rfl ?_
    refine g_step_no (j := 5) (t := 16) rfl rfl rfl rfl rfl rfl rfl ?_
    refine g_step_no (j := 5) (t := 16) rfl rfl rfl rfl rfl rfl rfl ?_
    refine g_step rfl (s_val (v_pick_t rfl rfl) rfl rfl ?_)
    refine g_step rfl (s_val (v_move rfl) rfl rfl ?_)
    refine g_step_no (j := 10) (t := 21) rfl rfl rfl rfl rfl rfl rfl ?_
    refine g_step_no (j := 10) (t := 21) rfl rfl rfl rfl rfl rfl rfl ?_
    refine g_step_no (j := 10) (t := 21) rfl rfl rfl rfl rfl rfl rfl ?_
    refine g_step rfl (s_val (v_pick_t rfl rfl) rfl rfl ?_)
    refine g_step rfl (s_val (v_move rfl) rfl rfl ?_)
    refine g_step_no (j := 15) (t := 26) rfl rfl rfl rfl rfl rfl rfl ?_
    refine g_step_no (j := 15) (t := 26) rfl rfl rfl rfl rfl rfl rfl ?_
    refine g_step_no (j := 15) (t := 26) rfl rfl rfl rfl rfl rfl rfl ?_
    refine g_step rfl (s_val (v_pick_t rfl rfl) rfl rfl ?_)
    refine g_step rfl (s_val (v_move rfl) rfl rfl ?_)
    refine g_step_no (j := 20) (t := 31) rfl rfl rfl rfl rfl rfl rfl ?_
    refine g_step_no (j := 20) (t := 31) rfl rfl rfl rfl rfl rfl rfl ?_
    refine g_step_no (j := 20) (t := 31) rfl rfl rfl rfl rfl rfl rfl ?_
    refine g_step rfl (s_val (v_pick_t rfl rfl) rfl rfl ?_)
    refine g_nil ?_
    refine g_next hK2 ?_
    first | refine g_keep [35] [2, 3] [2, 3] (keep_cons rfl keep_nil) (lkeep_cons rfl (lkeep_cons rfl lkeep_nil)) (keep_cons rfl (keep_cons rfl keep_nil)) rfl ?_ | refine g_keep [35] [2, 3] [2, 3] rfl rfl rfl rfl ?_
    refine g_cond rfl (fun _ => ?_) (fun h => by cases h)
    refine g_seq (fun K3 hK3 => ?_)
    refine g_region ?_
    refine g_step rfl (s_callp rfl rfl rfl (awake25_ok _) ?_)
    rintro _ rfl
    refine g_step rfl (s_val (v_assign rfl) rfl rfl ?_)
    refine g_nil ?_
    refine g_next hK3 ?_
    refine g_ret ?_
    refine g_then_ret ?_
    refine g_end1 (.inl rfl) Try.results6 (.tmp rfl) [] (ASub.refl _) (by first | exact AHeap.sub_refl _ | exact hsub) (fun p hp => by cases hp) ⟨rfl, ?_⟩
    rfl
  · try simp only [decide_eq_true_eq, decide_eq_false_iff_not, Bool.not_eq_true', Bool.not_eq_false', Bool.not_eq_eq_eq_not, Bool.not_true, Bool.not_false, Bool.and_eq_true, Bool.or_eq_true, Bool.or_eq_false_iff, beq_iff_eq, beq_eq_false_iff_ne, ne_eq, Int.not_lt, Int.not_le, Decidable.not_not] at hg16
    obtain ⟨_, hsm⟩ := fewL_small (l := [a, b]) (by simpa using hg16)
    have hsa := hsm a (by simp)
    have hsb := hsm b (by simp)
    refine g_step_yes (j := 5) (t := 16) rfl rfl rfl rfl (s_val (by first | exact v_loadl_all ty46 rfl rfl rfl rfl rfl | exact v_loadl_part (cs := [_, _, _, _, _, _, _]) ty46 rfl rfl rfl rfl rfl rfl) rfl rfl ?_)
    refine g_step_yes (j := 5) (t := 16) rfl rfl rfl rfl (s_callp rfl rfl rfl (recValid_ok a _ hsa) ?_)
    rintro _ rfl
    refine g_step_yes (j := 5) (t := 16) rfl rfl rfl rfl (s_val (v_not rfl) rfl rfl ?_)
    refine g_step rfl (s_val (v_pick_f rfl rfl) rfl rfl ?_)
    refine g_step rfl (s_val (v_move rfl) rfl rfl ?_)
    refine g_split 21 rfl (fun hg21 => ?_) (fun hg21 => ?_)
    · try simp only [decide_eq_true_eq, decide_eq_false_iff_not, Bool.not_eq_true', Bool.not_eq_false', Bool.not_eq_eq_eq_not, Bool.not_true, Bool.not_false, Bool.and_eq_true, Bool.or_eq_true, Bool.or_eq_false_iff, beq_iff_eq, beq_eq_false_iff_ne, ne_eq, Int.not_lt, Int.not_le, Decidable.not_not] at hg21
      refine g_step_no (j := 10) (t := 21) rfl rfl rfl rfl rfl rfl rfl ?_
      refine g_step_no (j := 10) (t := 21) rfl rfl rfl rfl rfl rfl rfl ?_
      refine g_step_no (j := 10) (t := 21) rfl rfl rfl rfl rfl rfl rfl ?_
      refine g_step rfl (s_val (v_pick_t rfl rfl) rfl rfl ?_)
      refine g_step rfl (s_val (v_move rfl) rfl rfl ?_)
      refine g_step_no (j := 15) (t := 26) rfl rfl rfl rfl rfl rfl rfl ?_
      refine g_step_no (j := 15) (t := 26) rfl rfl rfl rfl rfl rfl rfl ?_
      refine g_step_no (j := 15) (t := 26) rfl rfl rfl rfl rfl rfl rfl ?_
      refine g_step rfl (s_val (v_pick_t rfl rfl) rfl rfl ?_)
      refine g_step rfl (s_val (v_move rfl) rfl rfl ?_)
      refine g_step_no (j := 20) (t := 31) rfl rfl rfl rfl rfl rfl rfl ?_
      refine g_step_no (j := 20) (t := 31) rfl rfl rfl rfl rfl rfl rfl ?_
      refine g_step_no (j := 20) (t := 31) rfl rfl rfl rfl rfl rfl rfl ?_
      refine g_step rfl (s_val (v_pick_t rfl rfl) rfl rfl ?_)
      refine g_nil ?_
      refine g_next hK2 ?_
      first | refine g_keep [35] [2, 3] [2, 3] (keep_cons rfl keep_nil) (lkeep_cons rfl (lkeep_cons rfl lkeep_nil)) (keep_cons rfl (keep_cons rfl keep_nil)) rfl ?_ | refine g_keep [35] [2, 3] [2, 3] rfl rfl rfl rfl ?_
      refine g_cond rfl (fun _ => ?_) (fun h => by cases h)
      refine g_seq (fun K4 hK4 => ?_)
      refine g_region ?_
      refine g_step rfl (s_callp rfl rfl rfl (awake25_ok _) ?_)
      rintro _ rfl
      refine g_step rfl (s_val (v_assign rfl) rfl rfl ?_)
      refine g_nil ?_
      refine g_next hK4 ?_
      refine g_ret ?_
      refine g_then_ret ?_
      refine g_end1 (.inl rfl) Try.results6 (.tmp rfl) [] (ASub.refl _) (by first | exact AHeap.sub_refl _ | exact hsub) (fun p hp => by cases hp) ⟨rfl, ?_⟩
      rfl
    · try simp only [decide_eq_true_eq, decide_eq_false_iff_not, Bool.not_eq_true', Bool.not_eq_false', Bool.not_eq_eq_eq_not, Bool.not_true, Bool.not_false, Bool.and_eq_true, Bool.or_eq_true, Bool.or_eq_false_iff, beq_iff_eq, beq_eq_false_iff_ne, ne_eq, Int.not_lt, Int.not_le, Decidable.not_not] at hg21
      refine g_step_yes (j := 10) (t := 21) rfl rfl rfl rfl (s_fieldAddr ty46 fo46_2 ty3 rfl rfl ?_)
      refine g_step_yes (j := 10) (t := 21) rfl rfl rfl rfl (s_val (v_loadl ty3 rfl rfl rfl rfl) rfl rfl ?_)
      refine g_step_yes (j := 10) (t := 21) rfl rfl rfl rfl (s_val (v_neq rfl rfl) rfl rfl ?_)
      refine g_step rfl (s_val (v_pick_f rfl rfl) rfl rfl ?_)
      refine g_step rfl (s_val (v_move rfl) rfl rfl ?_)
      refine g_split 26 rfl (fun hg26 => ?_) (fun hg26 => ?_)
      · try simp only [decide_eq_true_eq, decide_eq_false_iff_not, Bool.not_eq_true', Bool.not_eq_false', Bool.not_eq_eq_eq_not, Bool.not_true, Bool.not_false, Bool.and_eq_true, Bool.or_eq_true, Bool.or_eq_false_iff, beq_iff_eq, beq_eq_false_iff_ne, ne_eq, Int.not_lt, Int.not_le, Decidable.not_not] at hg26
        refine g_step_no (j := 15) (t := 26) rfl rfl rfl rfl rfl rfl rfl ?_
        refine g_step_no (j := 15) (t := 26) rfl rfl rfl rfl rfl rfl rfl ?_
        refine g_step_no (j := 15) (t := 26) rfl rfl rfl rfl rfl rfl rfl ?_
        refine g_step rfl (s_val (v_pick_t rfl rfl) rfl rfl ?_)
        refine g_step rfl (s_val (v_move rfl) rfl rfl ?_)
        refine g_step_no (j := 20) (t := 31) rfl rfl rfl rfl rfl rfl rfl ?_
        refine g_step_no (j := 20) (t := 31) rfl rfl rfl rfl rfl rfl rfl ?_
        refine g_step_no (j := 20) (t := 31) rfl rfl rfl rfl rfl rfl rfl ?_
        refine g_step rfl (s_val (v_pick_t rfl rfl) rfl rfl ?_)
        refine g_nil ?_
        refine g_next hK2 ?_
        first | refine g_keep [35] [2, 3] [2, 3] (keep_cons rfl keep_nil) (lkeep_cons rfl (lkeep_cons rfl lkeep_nil)) (keep_cons rfl (keep_cons rfl keep_nil)) rfl ?_ | refine g_keep [35] [2, 3] [2, 3] rfl rfl rfl rfl ?_
        refine g_cond rfl (fun _ => ?_) (fun h => by cases h)
        refine g_seq (fun K5 hK5 => ?_)
        refine g_region ?_
        refine g_step rfl (s_callp rfl rfl rfl (awake25_ok _) ?_)
        rintro _ rfl
        refine g_step rfl (s_val (v_assign rfl) rfl rfl ?_)
        refine g_nil ?_
        refine g_next hK5 ?_
        refine g_ret ?_
        refine g_then_ret ?_
        refine g_end1 (.inl rfl) Try.results6 (.tmp rfl) [] (ASub.refl _) (by first | exact AHeap.sub_refl _ | exact hsub) (fun p hp => by cases hp) ⟨rfl, ?_⟩
        rfl
      · try simp only [decide_eq_true_eq, decide_eq_false_iff_not, Bool.not_eq_true', Bool.not_eq_false', Bool.not_eq_eq_eq_not, Bool.not_true, Bool.not_false, Bool.and_eq_true, Bool.or_eq_true, Bool.or_eq_false_iff, beq_iff_eq, beq_eq_false_iff_ne, ne_eq, Int.not_lt, Int.not_le, Decidable.not_not] at hg26
        refine g_step_yes (j := 15) (t := 26) rfl rfl rfl rfl (s_val (by first | exact v_loadl_all ty46 rfl rfl rfl rfl rfl | exact v_loadl_part (cs := [_, _, _, _, _, _, _]) ty46 rfl rfl rfl rfl rfl rfl) rfl rfl ?_)
        refine g_step_yes (j := 15) (t := 26) rfl rfl rfl rfl (s_callp rfl rfl rfl (recValid_ok b _ hsb) ?_)
        rintro _ rfl
        refine g_step_yes (j := 15) (t := 26) rfl rfl rfl rfl (s_val (v_not rfl) rfl rfl ?_)
        refine g_step rfl (s_val (v_pick_f rfl rfl) rfl rfl ?_)
        refine g_step rfl (s_val (v_move rfl) rfl rfl ?_)
        refine g_split 31 rfl (fun hg31 => ?_) (fun hg31 => ?_)
        · try simp only [decide_eq_true_eq, decide_eq_false_iff_not, Bool.not_eq_true', Bool.not_eq_false', Bool.not_eq_eq_eq_not, Bool.not_true, Bool.not_false, Bool.and_eq_true, Bool.or_eq_true, Bool.or_eq_false_iff, beq_iff_eq, beq_eq_false_iff_ne, ne_eq, Int.not_lt, Int.not_le, Decidable.not_not] at hg31
          refine g_step_no (j := 20) (t := 31) rfl rfl rfl rfl rfl rfl rfl ?_
          refine g_step_no (j := 20) (t := 31) rfl rfl rfl rfl rfl rfl rfl ?_
          refine g_step_no (j := 20) (t := 31) rfl rfl rfl rfl rfl rfl rfl ?_
          refine g_step rfl (s_val (v_pick_t rfl rfl) rfl rfl ?_)
          refine g_nil ?_
          refine g_next hK2 ?_
          first | refine g_keep [35] [2, 3] [2, 3] (keep_cons rfl keep_nil) (lkeep_cons rfl (lkeep_cons rfl lkeep_nil)) (keep_cons rfl (keep_cons rfl keep_nil)) rfl ?_ | refine g_keep [35] [2, 3] [2, 3] rfl rfl rfl rfl ?_
          refine g_cond rfl (fun _ => ?_) (fun h => by cases h)
          refine g_seq (fun K6 hK6 => ?_)
          refine g_region ?_
          refine g_step rfl (s_callp rfl rfl rfl (awake25_ok _) ?_)
          rintro _ rfl
          refine g_step rfl (s_val (v_assign rfl) rfl rfl ?_)
          refine g_nil ?_
          refine g_next hK6 ?_
          refine g_ret ?_
          refine g_then_ret ?_
          refine g_end1 (.inl rfl) Try.results6 (.tmp rfl) [] (ASub.refl _) (by first | exact AHeap.sub_refl _ | exact hsub) (fun p hp => by cases hp) ⟨rfl, ?_⟩
          rfl
        · try simp only [decide_eq_true_eq, decide_eq_false_iff_not, Bool.not_eq_true', Bool.not_eq_false', Bool.not_eq_eq_eq_not, Bool.not_true, Bool.not_false, Bool.and_eq_true, Bool.or_eq_true, Bool.or_eq_false_iff, beq_iff_eq, beq_eq_false_iff_ne, ne_eq, Int.not_lt, Int.not_le, Decidable.not_not] at hg31
          refine g_step_yes (j := 20) (t := 31) rfl rfl rfl rfl (s_fieldAddr ty46 fo46_1 ty3 rfl rfl ?_)
          refine g_step_yes (j := 20) (t := 31) rfl rfl rfl rfl (s_val (v_loadl ty3 rfl rfl rfl rfl) rfl rfl ?_)
          refine g_step_yes (j := 20) (t := 31) rfl rfl rfl rfl (s_val (v_geq rfl rfl) rfl rfl ?_)
          refine g_step rfl (s_val (v_pick_f rfl rfl) rfl rfl ?_)
          refine g_nil ?_
          refine g_next hK2 ?_
          first | refine g_keep [35] [2, 3] [2, 3] (keep_cons rfl keep_nil) (lkeep_cons rfl (lkeep_cons rfl lkeep_nil)) (keep_cons rfl (keep_cons rfl keep_nil)) rfl ?_ | refine g_keep [35] [2, 3] [2, 3] rfl rfl rfl rfl ?_
          refine g_cond rfl (fun hc35 => ?_) (fun hc35 => ?_)
          · try simp only [decide_eq_true_eq, decide_eq_false_iff_not, Bool.not_eq_true', Bool.not_eq_false', Bool.not_eq_eq_eq_not, Bool.not_true, Bool.not_false, Bool.and_eq_true, Bool.or_eq_true, Bool.or_eq_false_iff, beq_iff_eq, beq_eq_false_iff_ne, ne_eq, Int.not_lt, Int.not_le, Decidable.not_not] at hc35
            refine g_seq (fun K7 hK7 => ?_)
            refine g_region ?_
            refine g_step rfl (s_callp rfl rfl rfl (awake25_ok _) ?_)
            rintro _ rfl
            refine g_step rfl (s_val (v_assign rfl) rfl rfl ?_)
            refine g_nil ?_
            refine g_next hK7 ?_
            refine g_ret ?_
            refine g_then_ret ?_
            refine g_end1 (.inl rfl) Try.results6 (.tmp rfl) [] (ASub.refl _) (by first | exact AHeap.sub_refl _ | exact hsub) (fun p hp => by cases hp) ⟨rfl, ?_⟩
            rfl
          · try simp only [decide_eq_true_eq, decide_eq_false_iff_not, Bool.not_eq_true', Bool.not_eq_false', Bool.not_eq_eq_eq_not, Bool.not_true, Bool.not_false, Bool.and_eq_true, Bool.or_eq_true, Bool.or_eq_false_iff, beq_iff_eq, beq_eq_false_iff_ne, ne_eq, Int.not_lt, Int.not_le, Decidable.not_not] at hc35
            refine g_skip ?_
            refine g_next hK1 ?_
            refine g_seq (fun K8 hK8 => ?_)
            refine g_region ?_
            have hva : recValid a = true := by simp_all
            have h0 : a.st = 0 := by omega
            have hvb : recValid b = true := by simp_all
            have hbm : b.inc < 281474976710655 := by omega
            have hR := ref_one hva h0 hvb hbm
            have hia := recValid_ids hva
            have hib := recValid_ids hvb
            have e1 : (setId b a.id).inc = b.inc := rfl
            have e2 : (setId b a.id).st = b.st := rfl
            refine g_step rfl (s_val (by first | exact v_loadl_all ty46 rfl rfl rfl rfl rfl | exact v_loadl_part (cs := [_, _, _, _, _, _, _]) ty46 rfl rfl rfl rfl rfl rfl) rfl rfl ?_)
            refine g_step rfl (s_call rfl rfl rfl (begin_ok a 1 _ hsa hva h0 (by decide) (by decide)) (fun _ h => h.elim) ?_)
            rintro n1 rv1 effs1 hn1 hdom1 ⟨p, q, hp1, hq1, hpq, rfl, rfl⟩ hok1
            obtain ⟨r, hT, hnp, hnr, hsub⟩ := begin_st (own := a) (room := 1) hw0 (G := H) (AHeap.sub_refl _) (Nat.le_trans hn1 hp1) (Nat.le_trans hn1 hq1) hpq
            generalize setAll H _ = G1 at hT hsub ⊢
            refine g_step rfl (s_val (v_move rfl) rfl rfl ?_)
            refine g_step rfl (s_val (v_extract rfl rfl) rfl rfl ?_)
            refine g_step rfl (s_val (v_extract rfl rfl) rfl rfl ?_)
            refine g_step rfl (s_val (v_assign rfl) rfl rfl ?_)
            refine g_step rfl (s_val (v_assign rfl) rfl rfl ?_)
            refine g_nil ?_
            refine g_next hK8 ?_
            refine g_seq (fun K9 hK9 => ?_)
            refine g_seq (fun K10 hK10 => ?_)
            refine g_region ?_
            refine g_step rfl (s_val (v_move rfl) rfl rfl ?_)
            refine g_step rfl (s_val (v_neq rfl rfl) rfl rfl ?_)
            refine g_step rfl (s_val (v_move rfl) rfl rfl ?_)
            refine g_split 44 rfl (fun hg44 => ?_) (fun hg44 => ?_)
            · exfalso; (try simp only [decide_eq_true_eq, decide_eq_false_iff_not, Bool.not_eq_true', Bool.not_eq_false', Bool.not_eq_eq_eq_not, Bool.not_true, Bool.not_false, Bool.and_eq_true, Bool.or_eq_true, Bool.or_eq_false_iff, beq_iff_eq, beq_eq_false_iff_ne, ne_eq, Int.not_lt, Int.not_le, Decidable.not_not] at hg44); simp at hg44
            · try simp only [decide_eq_true_eq, decide_eq_false_iff_not, Bool.not_eq_true', Bool.not_eq_false', Bool.not_eq_eq_eq_not, Bool.not_true, Bool.not_false, Bool.and_eq_true, Bool.or_eq_true, Bool.or_eq_false_iff, beq_iff_eq, beq_eq_false_iff_ne, ne_eq, Int.not_lt, Int.not_le, Decidable.not_not] at hg44
              refine g_step_yes (j := 2) (t := 44) rfl rfl rfl rfl (s_val (v_move rfl) rfl rfl ?_)
              refine g_step_yes (j := 2) (t := 44) rfl rfl rfl rfl (s_val (by first | exact v_ptr_eql_nil ty48 rfl rfl rfl | exact v_nil_eql_nil ty48 rfl rfl | exact v_ptrO_eql ty48 rfl rfl) rfl rfl ?_)
              refine g_step rfl (s_val (v_pick_f rfl rfl) rfl rfl ?_)
              refine g_nil ?_
              refine g_next hK10 ?_
              refine g_cond rfl (fun hc47 => ?_) (fun hc47 => ?_)
              · exfalso; (try simp only [decide_eq_true_eq, decide_eq_false_iff_not, Bool.not_eq_true', Bool.not_eq_false', Bool.not_eq_eq_eq_not, Bool.not_true, Bool.not_false, Bool.and_eq_true, Bool.or_eq_true, Bool.or_eq_false_iff, beq_iff_eq, beq_eq_false_iff_ne, ne_eq, Int.not_lt, Int.not_le, Decidable.not_not] at hc47); simp at hc47
              · try simp only [decide_eq_true_eq, decide_eq_false_iff_not, Bool.not_eq_true', Bool.not_eq_false', Bool.not_eq_eq_eq_not, Bool.not_true, Bool.not_false, Bool.and_eq_true, Bool.or_eq_true, Bool.or_eq_false_iff, beq_iff_eq, beq_eq_false_iff_ne, ne_eq, Int.not_lt, Int.not_le, Decidable.not_not] at hc47
                refine g_skip ?_
                refine g_next hK9 ?_
                refine g_seq (fun K11 hK11 => ?_)
                refine g_region ?_
                refine g_step rfl (s_fieldAddr ty46 fo46_0 ty3 rfl rfl ?_)
                refine g_step rfl (s_val (v_loadl ty3 rfl rfl rfl rfl) rfl rfl ?_)
                refine g_step rfl (s_fieldAddr ty46 fo46_0 ty3 rfl rfl ?_)
                refine g_step rfl (s_store (new := (encR (setId b a.id))) ty3 rfl rfl rfl rfl rfl rfl rfl ?_)
                refine g_nil ?_
                refine g_next hK11 ?_
                refine g_seq (fun K12 hK12 => ?_)
                refine g_region ?_
                rcases Decidable.em (b.inc < a.inc ∨ (b.inc = a.inc ∧ b.st = 0)) with hcc | hcc
                · skip
                  refine g_step rfl (s_val (v_move rfl) rfl rfl ?_)
                  refine g_step rfl (s_val (by first | exact v_loadl_all ty46 rfl rfl rfl rfl rfl | exact v_loadl_part (cs := [_, _, _, _, _, _, _]) ty46 rfl rfl rfl rfl rfl rfl) rfl rfl ?_)
                  refine g_step rfl (s_call rfl rfl rfl (mjoin_ok p r a.id 1 [a] (setId b a.id) hsb _ hT (by simp) (by simpa using hsa) 0 a rfl (idx_one a).1 (idx_one a).2 (fnd_one a)) (fun b hb => .inr (by rcases hb with rfl | rfl; exact hnp; exact hnr)) ?_)
                  rintro n2 rv2 effs2 hn2 hdom2 ⟨rfl, hTE⟩ hok2
                  obtain ⟨r, hT, hnp, hnr, hsub⟩ := MSt.step hw0 hT hnp hnr hsub hn2 hdom2 hTE
                  clear hTE hok2
                  generalize setAll _ effs2 = G2 at hT hsub ⊢
                  rw [if_pos hcc] at hR
                  rw [hR] at hT ⊢
                  refine g_step rfl (s_val (v_assign rfl) rfl rfl ?_)
                  refine g_nil ?_
                  refine g_next hK12 ?_
                  refine g_seq (fun K13 hK13 => ?_)
                  refine g_region ?_
                  refine g_step rfl (s_val (v_move rfl) rfl rfl ?_)
                  refine g_step rfl (s_callp rfl rfl rfl (mself_ok p r a.id 1 [a] _ hT (by simp) (by simpa using hsa)) ?_)
                  rintro _ rfl
                  rw [rfind_one a rfl]
                  refine g_step rfl (s_alloc (av := (.agg [(.int .i64 0), (.int .i64 0), (.int .i64 0), (.int .i64 0), (.int .i64 0), (.bool false), .nil0])) ty46 rfl rfl rfl rfl ?_)
                  refine g_step rfl (s_store_all ty46 rfl rfl rfl rfl rfl rfl ?_)
                  refine g_nil ?_
                  refine g_next hK13 ?_
                  refine g_seq (fun K14 hK14 => ?_)
                  refine g_seq (fun K15 hK15 => ?_)
                  refine g_region ?_
                  refine g_step rfl (s_fieldAddr ty46 fo46_1 ty3 rfl rfl ?_)
                  refine g_step rfl (s_val (v_loadl ty3 rfl rfl rfl rfl) rfl rfl ?_)
                  refine g_step rfl (s_fieldAddr ty46 fo46_1 ty3 rfl rfl ?_)
                  refine g_step rfl (s_val (v_loadl ty3 rfl rfl rfl rfl) rfl rfl ?_)
                  refine g_step rfl (s_val (v_lss rfl rfl) rfl rfl ?_)
                  refine g_step rfl (s_val (v_move rfl) rfl rfl ?_)
                  refine g_split 61 rfl (fun hg61 => ?_) (fun hg61 => ?_)
                  · try simp only [decide_eq_true_eq, decide_eq_false_iff_not, Bool.not_eq_true', Bool.not_eq_false', Bool.not_eq_eq_eq_not, Bool.not_true, Bool.not_false, Bool.and_eq_true, Bool.or_eq_true, Bool.or_eq_false_iff, beq_iff_eq, beq_eq_false_iff_ne, ne_eq, Int.not_lt, Int.not_le, Decidable.not_not] at hg61
                    refine g_step_no (j := 5) (t := 61) rfl rfl rfl rfl rfl rfl rfl ?_
                    refine g_step_no (j := 5) (t := 61) rfl rfl rfl rfl rfl rfl rfl ?_
                    refine g_step_no (j := 5) (t := 61) rfl rfl rfl rfl rfl rfl rfl ?_
                    refine g_step_no (j := 5) (t := 61) rfl rfl rfl rfl rfl rfl rfl ?_
                    refine g_step_no (j := 5) (t := 61) rfl rfl rfl rfl rfl rfl rfl ?_
                    refine g_step_no (j := 5) (t := 61) rfl rfl rfl rfl rfl rfl rfl ?_
                    refine g_step_und (j := 11) (t := 67) rfl rfl rfl rfl rfl rfl ?_
                    refine g_step_und (j := 11) (t := 67) rfl rfl rfl rfl rfl rfl ?_
                    refine g_step_und (j := 11) (t := 67) rfl rfl rfl rfl rfl rfl ?_
                    refine g_step_no (j := 5) (t := 61) rfl rfl rfl rfl rfl rfl rfl ?_
                    refine g_step rfl (s_val (v_pick_t rfl rfl) rfl rfl ?_)
                    refine g_nil ?_
                    refine g_next hK15 ?_
                    first | refine g_keep [7, 72] [2, 3, 8] [2, 3, 8] (keep_cons rfl (keep_cons rfl keep_nil)) (lkeep_cons rfl (lkeep_cons rfl (lkeep_cons rfl lkeep_nil))) (keep_cons rfl (keep_cons rfl (keep_cons rfl keep_nil))) rfl ?_ | refine g_keep [7, 72] [2, 3, 8] [2, 3, 8] rfl rfl rfl rfl ?_
                    refine g_cond rfl (fun _ => ?_) (fun h => by cases h)
                    refine g_seq (fun K16 hK16 => ?_)
                    refine g_region ?_
                    refine g_step rfl (s_val (v_move rfl) rfl rfl ?_)
                    refine g_step rfl (s_val (v_eql rfl rfl) rfl rfl ?_)
                    refine g_step rfl (s_val (v_move rfl) rfl rfl ?_)
                    refine g_split 75 rfl (fun hg75 => ?_) (fun hg75 => ?_)
                    · try simp only [decide_eq_true_eq, decide_eq_false_iff_not, Bool.not_eq_true', Bool.not_eq_false', Bool.not_eq_eq_eq_not, Bool.not_true, Bool.not_false, Bool.and_eq_true, Bool.or_eq_true, Bool.or_eq_false_iff, beq_iff_eq, beq_eq_false_iff_ne, ne_eq, Int.not_lt, Int.not_le, Decidable.not_not] at hg75
                      refine g_step_yes (j := 2) (t := 75) rfl rfl rfl rfl (s_val (by first | exact v_loadl_all ty46 rfl rfl rfl rfl rfl | exact v_loadl_part (cs := [_, _, _, _, _, _, _]) ty46 rfl rfl rfl rfl rfl rfl) rfl rfl ?_)
                      refine g_step_yes (j := 2) (t := 75) rfl rfl rfl rfl (s_val (by first | exact v_loadl_all ty46 rfl rfl rfl rfl rfl | exact v_loadl_part (cs := [_, _, _, _, _, _, _]) ty46 rfl rfl rfl rfl rfl rfl) rfl rfl ?_)
                      refine g_step_yes (j := 2) (t := 75) rfl rfl rfl rfl (s_callp rfl rfl rfl (alike_ok a a _ hsa) ?_)
                      rintro _ rfl
                      refine g_step rfl (s_val (v_pick_t rfl rfl) rfl rfl ?_)
                      refine g_step rfl (s_val (v_move rfl) rfl rfl ?_)
                      refine g_split 80 rfl (fun hg80 => ?_) (fun hg80 => ?_)
                      · try simp only [decide_eq_true_eq, decide_eq_false_iff_not, Bool.not_eq_true', Bool.not_eq_false', Bool.not_eq_eq_eq_not, Bool.not_true, Bool.not_false, Bool.and_eq_true, Bool.or_eq_true, Bool.or_eq_false_iff, beq_iff_eq, beq_eq_false_iff_ne, ne_eq, Int.not_lt, Int.not_le, Decidable.not_not] at hg80
                        refine g_step_yes (j := 7) (t := 80) rfl rfl rfl rfl (s_callp rfl rfl rfl (awake25_ok _) ?_)
                        rintro _ rfl
                        refine g_step rfl (s_val (v_pick_t rfl rfl) rfl rfl ?_)
                        refine g_step rfl (s_val (v_assign rfl) rfl rfl ?_)
                        refine g_nil ?_
                        refine g_next hK16 ?_
                        refine g_ret ?_
                        refine g_then_ret ?_
                        refine g_end1 (.inl rfl) Try.results6 (.tmp rfl) [] (ASub.refl _) (by first | exact AHeap.sub_refl _ | exact hsub) (fun p hp => by cases hp) ⟨rfl, ?_⟩
                        rfl
                      · exfalso; (try simp only [decide_eq_true_eq, decide_eq_false_iff_not, Bool.not_eq_true', Bool.not_eq_false', Bool.not_eq_eq_eq_not, Bool.not_true, Bool.not_false, Bool.and_eq_true, Bool.or_eq_true, Bool.or_eq_false_iff, beq_iff_eq, beq_eq_false_iff_ne, ne_eq, Int.not_lt, Int.not_le, Decidable.not_not] at hg80); simp at hg80
                    · exfalso; (try simp only [decide_eq_true_eq, decide_eq_false_iff_not, Bool.not_eq_true', Bool.not_eq_false', Bool.not_eq_eq_eq_not, Bool.not_true, Bool.not_false, Bool.and_eq_true, Bool.or_eq_true, Bool.or_eq_false_iff, beq_iff_eq, beq_eq_false_iff_ne, ne_eq, Int.not_lt, Int.not_le, Decidable.not_not] at hg75); simp at hg75
                  · try simp only [decide_eq_true_eq, decide_eq_false_iff_not, Bool.not_eq_true', Bool.not_eq_false', Bool.not_eq_eq_eq_not, Bool.not_true, Bool.not_false, Bool.and_eq_true, Bool.or_eq_true, Bool.or_eq_false_iff, beq_iff_eq, beq_eq_false_iff_ne, ne_eq, Int.not_lt, Int.not_le, Decidable.not_not] at hg61
                    refine g_step_yes (j := 5) (t := 61) rfl rfl rfl rfl (s_fieldAddr ty46 fo46_1 ty3 rfl rfl ?_)
                    refine g_step_yes (j := 5) (t := 61) rfl rfl rfl rfl (s_val (v_loadl ty3 rfl rfl rfl rfl) rfl rfl ?_)
                    refine g_step_yes (j := 5) (t := 61) rfl rfl rfl rfl (s_fieldAddr ty46 fo46_1 ty3 rfl rfl ?_)
                    refine g_step_yes (j := 5) (t := 61) rfl rfl rfl rfl (s_val (v_loadl ty3 rfl rfl rfl rfl) rfl rfl ?_)
                    refine g_step_yes (j := 5) (t := 61) rfl rfl rfl rfl (s_val (v_eql rfl rfl) rfl rfl ?_)
                    refine g_step_yes (j := 5) (t := 61) rfl rfl rfl rfl (s_val (v_move rfl) rfl rfl ?_)
                    refine g_split 67 rfl (fun hg67 => ?_) (fun hg67 => ?_)
                    · try simp only [decide_eq_true_eq, decide_eq_false_iff_not, Bool.not_eq_true', Bool.not_eq_false', Bool.not_eq_eq_eq_not, Bool.not_true, Bool.not_false, Bool.and_eq_true, Bool.or_eq_true, Bool.or_eq_false_iff, beq_iff_eq, beq_eq_false_iff_ne, ne_eq, Int.not_lt, Int.not_le, Decidable.not_not] at hg67
                      refine g_step_yes (j := 11) (t := 67) rfl rfl rfl rfl (s_fieldAddr ty46 fo46_2 ty3 rfl rfl ?_)
                      refine g_step_yes (j := 11) (t := 67) rfl rfl rfl rfl (s_val (v_loadl ty3 rfl rfl rfl rfl) rfl rfl ?_)
                      refine g_step_yes (j := 11) (t := 67) rfl rfl rfl rfl (s_val (v_eql rfl rfl) rfl rfl ?_)
                      refine g_step_yes (j := 5) (t := 61) rfl rfl rfl rfl (s_val (v_pick_t rfl rfl) rfl rfl ?_)
                      refine g_step rfl (s_val (v_pick_f rfl rfl) rfl rfl ?_)
                      refine g_nil ?_
                      refine g_next hK15 ?_
                      first | refine g_keep [7, 72] [2, 3, 8] [2, 3, 8] (keep_cons rfl (keep_cons rfl keep_nil)) (lkeep_cons rfl (lkeep_cons rfl (lkeep_cons rfl lkeep_nil))) (keep_cons rfl (keep_cons rfl (keep_cons rfl keep_nil))) rfl ?_ | refine g_keep [7, 72] [2, 3, 8] [2, 3, 8] rfl rfl rfl rfl ?_
                      refine g_cond rfl (fun hc72 => ?_) (fun hc72 => ?_)
                      · try simp only [decide_eq_true_eq, decide_eq_false_iff_not, Bool.not_eq_true', Bool.not_eq_false', Bool.not_eq_eq_eq_not, Bool.not_true, Bool.not_false, Bool.and_eq_true, Bool.or_eq_true, Bool.or_eq_false_iff, beq_iff_eq, beq_eq_false_iff_ne, ne_eq, Int.not_lt, Int.not_le, Decidable.not_not] at hc72
                        refine g_seq (fun K17 hK17 => ?_)
                        refine g_region ?_
                        refine g_step rfl (s_val (v_move rfl) rfl rfl ?_)
                        refine g_step rfl (s_val (v_eql rfl rfl) rfl rfl ?_)
                        refine g_step rfl (s_val (v_move rfl) rfl rfl ?_)
                        refine g_split 75 rfl (fun hg75 => ?_) (fun hg75 => ?_)
                        · try simp only [decide_eq_true_eq, decide_eq_false_iff_not, Bool.not_eq_true', Bool.not_eq_false', Bool.not_eq_eq_eq_not, Bool.not_true, Bool.not_false, Bool.and_eq_true, Bool.or_eq_true, Bool.or_eq_false_iff, beq_iff_eq, beq_eq_false_iff_ne, ne_eq, Int.not_lt, Int.not_le, Decidable.not_not] at hg75
                          refine g_step_yes (j := 2) (t := 75) rfl rfl rfl rfl (s_val (by first | exact v_loadl_all ty46 rfl rfl rfl rfl rfl | exact v_loadl_part (cs := [_, _, _, _, _, _, _]) ty46 rfl rfl rfl rfl rfl rfl) rfl rfl ?_)
                          refine g_step_yes (j := 2) (t := 75) rfl rfl rfl rfl (s_val (by first | exact v_loadl_all ty46 rfl rfl rfl rfl rfl | exact v_loadl_part (cs := [_, _, _, _, _, _, _]) ty46 rfl rfl rfl rfl rfl rfl) rfl rfl ?_)
                          refine g_step_yes (j := 2) (t := 75) rfl rfl rfl rfl (s_callp rfl rfl rfl (alike_ok a a _ hsa) ?_)
                          rintro _ rfl
                          refine g_step rfl (s_val (v_pick_t rfl rfl) rfl rfl ?_)
                          refine g_step rfl (s_val (v_move rfl) rfl rfl ?_)
                          refine g_split 80 rfl (fun hg80 => ?_) (fun hg80 => ?_)
                          · try simp only [decide_eq_true_eq, decide_eq_false_iff_not, Bool.not_eq_true', Bool.not_eq_false', Bool.not_eq_eq_eq_not, Bool.not_true, Bool.not_false, Bool.and_eq_true, Bool.or_eq_true, Bool.or_eq_false_iff, beq_iff_eq, beq_eq_false_iff_ne, ne_eq, Int.not_lt, Int.not_le, Decidable.not_not] at hg80
                            refine g_step_yes (j := 7) (t := 80) rfl rfl rfl rfl (s_callp rfl rfl rfl (awake25_ok _) ?_)
                            rintro _ rfl
                            refine g_step rfl (s_val (v_pick_t rfl rfl) rfl rfl ?_)
                            refine g_step rfl (s_val (v_assign rfl) rfl rfl ?_)
                            refine g_nil ?_
                            refine g_next hK17 ?_
                            refine g_ret ?_
                            refine g_then_ret ?_
                            refine g_end1 (.inl rfl) Try.results6 (.tmp rfl) [] (ASub.refl _) (by first | exact AHeap.sub_refl _ | exact hsub) (fun p hp => by cases hp) ⟨rfl, ?_⟩
                            rfl
                          · exfalso; (try simp only [decide_eq_true_eq, decide_eq_false_iff_not, Bool.not_eq_true', Bool.not_eq_false', Bool.not_eq_eq_eq_not, Bool.not_true, Bool.not_false, Bool.and_eq_true, Bool.or_eq_true, Bool.or_eq_false_iff, beq_iff_eq, beq_eq_false_iff_ne, ne_eq, Int.not_lt, Int.not_le, Decidable.not_not] at hg80); simp at hg80
                        · exfalso; (try simp only [decide_eq_true_eq, decide_eq_false_iff_not, Bool.not_eq_true', Bool.not_eq_false', Bool.not_eq_eq_eq_not, Bool.not_true, Bool.not_false, Bool.and_eq_true, Bool.or_eq_true, Bool.or_eq_false_iff, beq_iff_eq, beq_eq_false_iff_ne, ne_eq, Int.not_lt, Int.not_le, Decidable.not_not] at hg75); simp at hg75
                      · exfalso; (try simp only [decide_eq_true_eq, decide_eq_false_iff_not, Bool.not_eq_true', Bool.not_eq_false', Bool.not_eq_eq_eq_not, Bool.not_true, Bool.not_false, Bool.and_eq_true, Bool.or_eq_true, Bool.or_eq_false_iff, beq_iff_eq, beq_eq_false_iff_ne, ne_eq, Int.not_lt, Int.not_le, Decidable.not_not] at hc72); omega
                    · exfalso; (try simp only [decide_eq_true_eq, decide_eq_false_iff_not, Bool.not_eq_true', Bool.not_eq_false', Bool.not_eq_eq_eq_not, Bool.not_true, Bool.not_false, Bool.and_eq_true, Bool.or_eq_true, Bool.or_eq_false_iff, beq_iff_eq, beq_eq_false_iff_ne, ne_eq, Int.not_lt, Int.not_le, Decidable.not_not] at hg67); omega
                · skip
                  refine g_step rfl (s_val (v_move rfl) rfl rfl ?_)
                  refine g_step rfl (s_val (by first | exact v_loadl_all ty46 rfl rfl rfl rfl rfl | exact v_loadl_part (cs := [_, _, _, _, _, _, _]) ty46 rfl rfl rfl rfl rfl rfl) rfl rfl ?_)
                  refine g_step rfl (s_call rfl rfl rfl (mjoin_ok p r a.id 1 [a] (setId b a.id) hsb _ hT (by simp) (by simpa using hsa) 0 a rfl (idx_one a).1 (idx_one a).2 (fnd_one a)) (fun b hb => .inr (by rcases hb with rfl | rfl; exact hnp; exact hnr)) ?_)
                  rintro n2 rv2 effs2 hn2 hdom2 ⟨rfl, hTE⟩ hok2
                  obtain ⟨r, hT, hnp, hnr, hsub⟩ := MSt.step hw0 hT hnp hnr hsub hn2 hdom2 hTE
                  clear hTE hok2
                  generalize setAll _ effs2 = G2 at hT hsub ⊢
                  rw [if_neg hcc] at hR
                  rw [hR] at hT ⊢
                  refine g_step rfl (s_val (v_assign rfl) rfl rfl ?_)
                  refine g_nil ?_
                  refine g_next hK12 ?_
                  refine g_seq (fun K18 hK18 => ?_)
                  refine g_region ?_
                  refine g_step rfl (s_val (v_move rfl) rfl rfl ?_)
                  refine g_step rfl (s_callp rfl rfl rfl (mself_ok p r a.id 1 [(wthInc a (b.inc + 1))] _ hT (by simp) (by intro x hx; simp at hx; subst hx; exact hsa)) ?_)
                  rintro _ rfl
                  rw [rfind_one (wthInc a (b.inc + 1)) (show (wthInc a (b.inc + 1)).id = a.id from rfl)]
                  refine g_step rfl (s_alloc (av := (.agg [(.int .i64 0), (.int .i64 0), (.int .i64 0), (.int .i64 0), (.int .i64 0), (.bool false), .nil0])) ty46 rfl rfl rfl rfl ?_)
                  refine g_step rfl (s_store_all ty46 rfl rfl rfl rfl rfl rfl ?_)
                  refine g_nil ?_
                  refine g_next hK18 ?_
                  refine g_seq (fun K19 hK19 => ?_)
                  refine g_seq (fun K20 hK20 => ?_)
                  refine g_region ?_
                  refine g_step rfl (s_fieldAddr ty46 fo46_1 ty3 rfl rfl ?_)
                  refine g_step rfl (s_val (v_loadl ty3 rfl rfl rfl rfl) rfl rfl ?_)
                  refine g_step rfl (s_fieldAddr ty46 fo46_1 ty3 rfl rfl ?_)
                  refine g_step rfl (s_val (v_loadl ty3 rfl rfl rfl rfl) rfl rfl ?_)
                  refine g_step rfl (s_val (v_lss rfl rfl) rfl rfl ?_)
                  refine g_step rfl (s_val (v_move rfl) rfl rfl ?_)
                  refine g_split 61 rfl (fun hg61 => ?_) (fun hg61 => ?_)
                  · exfalso; (try simp only [decide_eq_true_eq, decide_eq_false_iff_not, Bool.not_eq_true', Bool.not_eq_false', Bool.not_eq_eq_eq_not, Bool.not_true, Bool.not_false, Bool.and_eq_true, Bool.or_eq_true, Bool.or_eq_false_iff, beq_iff_eq, beq_eq_false_iff_ne, ne_eq, Int.not_lt, Int.not_le, Decidable.not_not] at hg61); omega
                  · try simp only [decide_eq_true_eq, decide_eq_false_iff_not, Bool.not_eq_true', Bool.not_eq_false', Bool.not_eq_eq_eq_not, Bool.not_true, Bool.not_false, Bool.and_eq_true, Bool.or_eq_true, Bool.or_eq_false_iff, beq_iff_eq, beq_eq_false_iff_ne, ne_eq, Int.not_lt, Int.not_le, Decidable.not_not] at hg61
                    refine g_step_yes (j := 5) (t := 61) rfl rfl rfl rfl (s_fieldAddr ty46 fo46_1 ty3 rfl rfl ?_)
                    refine g_step_yes (j := 5) (t := 61) rfl rfl rfl rfl (s_val (v_loadl ty3 rfl rfl rfl rfl) rfl rfl ?_)
                    refine g_step_yes (j := 5) (t := 61) rfl rfl rfl rfl (s_fieldAddr ty46 fo46_1 ty3 rfl rfl ?_)
                    refine g_step_yes (j := 5) (t := 61) rfl rfl rfl rfl (s_val (v_loadl ty3 rfl rfl rfl rfl) rfl rfl ?_)
                    refine g_step_yes (j := 5) (t := 61) rfl rfl rfl rfl (s_val (v_eql rfl rfl) rfl rfl ?_)
                    refine g_step_yes (j := 5) (t := 61) rfl rfl rfl rfl (s_val (v_move rfl) rfl rfl ?_)
                    refine g_split 67 rfl (fun hg67 => ?_) (fun hg67 => ?_)
                    · try simp only [decide_eq_true_eq, decide_eq_false_iff_not, Bool.not_eq_true', Bool.not_eq_false', Bool.not_eq_eq_eq_not, Bool.not_true, Bool.not_false, Bool.and_eq_true, Bool.or_eq_true, Bool.or_eq_false_iff, beq_iff_eq, beq_eq_false_iff_ne, ne_eq, Int.not_lt, Int.not_le, Decidable.not_not] at hg67
                      refine g_step_yes (j := 11) (t := 67) rfl rfl rfl rfl (s_fieldAddr ty46 fo46_2 ty3 rfl rfl ?_)
                      refine g_step_yes (j := 11) (t := 67) rfl rfl rfl rfl (s_val (v_loadl ty3 rfl rfl rfl rfl) rfl rfl ?_)
                      refine g_step_yes (j := 11) (t := 67) rfl rfl rfl rfl (s_val (v_eql rfl rfl) rfl rfl ?_)
                      refine g_step_yes (j := 5) (t := 61) rfl rfl rfl rfl (s_val (v_pick_t rfl rfl) rfl rfl ?_)
                      refine g_step rfl (s_val (v_pick_f rfl rfl) rfl rfl ?_)
                      refine g_nil ?_
                      refine g_next hK20 ?_
                      first | refine g_keep [7, 72] [2, 3, 8] [2, 3, 8] (keep_cons rfl (keep_cons rfl keep_nil)) (lkeep_cons rfl (lkeep_cons rfl (lkeep_cons rfl lkeep_nil))) (keep_cons rfl (keep_cons rfl (keep_cons rfl keep_nil))) rfl ?_ | refine g_keep [7, 72] [2, 3, 8] [2, 3, 8] rfl rfl rfl rfl ?_
                      refine g_cond rfl (fun hc72 => ?_) (fun hc72 => ?_)
                      · exfalso; (try simp only [decide_eq_true_eq, decide_eq_false_iff_not, Bool.not_eq_true', Bool.not_eq_false', Bool.not_eq_eq_eq_not, Bool.not_true, Bool.not_false, Bool.and_eq_true, Bool.or_eq_true, Bool.or_eq_false_iff, beq_iff_eq, beq_eq_false_iff_ne, ne_eq, Int.not_lt, Int.not_le, Decidable.not_not] at hc72); omega
                      · try simp only [decide_eq_true_eq, decide_eq_false_iff_not, Bool.not_eq_true', Bool.not_eq_false', Bool.not_eq_eq_eq_not, Bool.not_true, Bool.not_false, Bool.and_eq_true, Bool.or_eq_true, Bool.or_eq_false_iff, beq_iff_eq, beq_eq_false_iff_ne, ne_eq, Int.not_lt, Int.not_le, Decidable.not_not] at hc72
                        refine g_skip ?_
                        refine g_next hK19 ?_
                        refine g_seq (fun K21 hK21 => ?_)
                        refine g_region ?_
                        refine g_step rfl (s_val (by first | exact v_loadl_all ty46 rfl rfl rfl rfl rfl | exact v_loadl_part (cs := [_, _, _, _, _, _, _]) ty46 rfl rfl rfl rfl rfl rfl) rfl rfl ?_)
                        refine g_step rfl (s_val (by first | exact v_loadl_all ty46 rfl rfl rfl rfl rfl | exact v_loadl_part (cs := [_, _, _, _, _, _, _]) ty46 rfl rfl rfl rfl rfl rfl) rfl rfl ?_)
                        refine g_step rfl (s_callp rfl rfl rfl (join_ok (wthInc a (b.inc + 1)) (setId b a.id) _ hsa hsb) ?_)
                        rintro _ rfl
                        rw [jnAll_same (show (wthInc a (b.inc + 1)).id = (setId b a.id).id from rfl), jn_gt (show (setId b a.id).inc < (wthInc a (b.inc + 1)).inc by show b.inc < b.inc + 1; omega)]
                        refine g_step rfl (s_val (v_move rfl) rfl rfl ?_)
                        refine g_step rfl (s_val (v_extract rfl rfl) rfl rfl ?_)
                        refine g_step rfl (s_val (v_extract rfl rfl) rfl rfl ?_)
                        refine g_step rfl (s_alloc (av := (.agg [(.int .i64 0), (.int .i64 0), (.int .i64 0), (.int .i64 0), (.int .i64 0), (.bool false), .nil0])) ty46 rfl rfl rfl rfl ?_)
                        refine g_step rfl (s_store_all ty46 rfl rfl rfl rfl rfl rfl ?_)
                        refine g_step rfl (s_val (v_assign rfl) rfl rfl ?_)
                        refine g_nil ?_
                        refine g_next hK21 ?_
                        refine g_seq (fun K22 hK22 => ?_)
                        refine g_region ?_
                        refine g_step rfl (s_val (v_move rfl) rfl rfl ?_)
                        refine g_step rfl (s_val (v_eql rfl rfl) rfl rfl ?_)
                        refine g_step rfl (s_val (v_move rfl) rfl rfl ?_)
                        refine g_split 91 rfl (fun hg91 => ?_) (fun hg91 => ?_)
                        · try simp only [decide_eq_true_eq, decide_eq_false_iff_not, Bool.not_eq_true', Bool.not_eq_false', Bool.not_eq_eq_eq_not, Bool.not_true, Bool.not_false, Bool.and_eq_true, Bool.or_eq_true, Bool.or_eq_false_iff, beq_iff_eq, beq_eq_false_iff_ne, ne_eq, Int.not_lt, Int.not_le, Decidable.not_not] at hg91
                          refine g_step_yes (j := 2) (t := 91) rfl rfl rfl rfl (s_val (v_move rfl) rfl rfl ?_)
                          refine g_step rfl (s_val (v_pick_t rfl rfl) rfl rfl ?_)
                          refine g_step rfl (s_val (v_move rfl) rfl rfl ?_)
                          refine g_split 94 rfl (fun hg94 => ?_) (fun hg94 => ?_)
                          · try simp only [decide_eq_true_eq, decide_eq_false_iff_not, Bool.not_eq_true', Bool.not_eq_false', Bool.not_eq_eq_eq_not, Bool.not_true, Bool.not_false, Bool.and_eq_true, Bool.or_eq_true, Bool.or_eq_false_iff, beq_iff_eq, beq_eq_false_iff_ne, ne_eq, Int.not_lt, Int.not_le, Decidable.not_not] at hg94
                            refine g_step_yes (j := 5) (t := 94) rfl rfl rfl rfl (s_val (by first | exact v_loadl_all ty46 rfl rfl rfl rfl rfl | exact v_loadl_part (cs := [_, _, _, _, _, _, _]) ty46 rfl rfl rfl rfl rfl rfl) rfl rfl ?_)
                            refine g_step_yes (j := 5) (t := 94) rfl rfl rfl rfl (s_val (by first | exact v_loadl_all ty46 rfl rfl rfl rfl rfl | exact v_loadl_part (cs := [_, _, _, _, _, _, _]) ty46 rfl rfl rfl rfl rfl rfl) rfl rfl ?_)
                            refine g_step_yes (j := 5) (t := 94) rfl rfl rfl rfl (s_callp rfl rfl rfl (alike_ok (wthInc a (b.inc + 1)) (wthInc a (b.inc + 1)) _ hsa) ?_)
                            rintro _ rfl
                            refine g_step rfl (s_val (v_pick_t rfl rfl) rfl rfl ?_)
                            refine g_step rfl (s_val (v_move rfl) rfl rfl ?_)
                            refine g_split 99 rfl (fun hg99 => ?_) (fun hg99 => ?_)
                            · try simp only [decide_eq_true_eq, decide_eq_false_iff_not, Bool.not_eq_true', Bool.not_eq_false', Bool.not_eq_eq_eq_not, Bool.not_true, Bool.not_false, Bool.and_eq_true, Bool.or_eq_true, Bool.or_eq_false_iff, beq_iff_eq, beq_eq_false_iff_ne, ne_eq, Int.not_lt, Int.not_le, Decidable.not_not] at hg99
                              refine g_step_yes (j := 10) (t := 99) rfl rfl rfl rfl (s_fieldAddr ty46 fo46_2 ty3 rfl rfl ?_)
                              refine g_step_yes (j := 10) (t := 99) rfl rfl rfl rfl (s_val (v_loadl ty3 rfl rfl rfl rfl) rfl rfl ?_)
                              refine g_step_yes (j := 10) (t := 99) rfl rfl rfl rfl (s_val (v_eql rfl rfl) rfl rfl ?_)
                              refine g_step rfl (s_val (v_pick_t rfl rfl) rfl rfl ?_)
                              refine g_step rfl (s_val (v_move rfl) rfl rfl ?_)
                              refine g_split 104 rfl (fun hg104 => ?_) (fun hg104 => ?_)
                              · try simp only [decide_eq_true_eq, decide_eq_false_iff_not, Bool.not_eq_true', Bool.not_eq_false', Bool.not_eq_eq_eq_not, Bool.not_true, Bool.not_false, Bool.and_eq_true, Bool.or_eq_true, Bool.or_eq_false_iff, beq_iff_eq, beq_eq_false_iff_ne, ne_eq, Int.not_lt, Int.not_le, Decidable.not_not] at hg104
                                refine g_step_yes (j := 15) (t := 104) rfl rfl rfl rfl (s_fieldAddr ty46 fo46_1 ty3 rfl rfl ?_)
                                refine g_step_yes (j := 15) (t := 104) rfl rfl rfl rfl (s_val (v_loadl ty3 rfl rfl rfl rfl) rfl rfl ?_)
                                refine g_step_yes (j := 15) (t := 104) rfl rfl rfl rfl (s_fieldAddr ty46 fo46_1 ty3 rfl rfl ?_)
                                refine g_step_yes (j := 15) (t := 104) rfl rfl rfl rfl (s_val (v_loadl ty3 rfl rfl rfl rfl) rfl rfl ?_)
                                refine g_step_yes (j := 15) (t := 104) rfl rfl rfl rfl (s_val (v_add rfl rfl (by omega)) rfl rfl ?_)
                                refine g_step_yes (j := 15) (t := 104) rfl rfl rfl rfl (s_val (v_eql rfl rfl) rfl rfl ?_)
                                refine g_step rfl (s_val (v_pick_t rfl rfl) rfl rfl ?_)
                                refine g_step rfl (s_val (v_move rfl) rfl rfl ?_)
                                refine g_split 112 rfl (fun hg112 => ?_) (fun hg112 => ?_)
                                · try simp only [decide_eq_true_eq, decide_eq_false_iff_not, Bool.not_eq_true', Bool.not_eq_false', Bool.not_eq_eq_eq_not, Bool.not_true, Bool.not_false, Bool.and_eq_true, Bool.or_eq_true, Bool.or_eq_false_iff, beq_iff_eq, beq_eq_false_iff_ne, ne_eq, Int.not_lt, Int.not_le, Decidable.not_not] at hg112
                                  refine g_step_yes (j := 23) (t := 112) rfl rfl rfl rfl (s_callp rfl rfl rfl (awake25_ok _) ?_)
                                  rintro _ rfl
                                  refine g_step rfl (s_val (v_pick_t rfl rfl) rfl rfl ?_)
                                  refine g_step rfl (s_val (v_assign rfl) rfl rfl ?_)
                                  refine g_nil ?_
                                  refine g_next hK22 ?_
                                  first | refine g_keep [4] [] [] (keep_cons rfl keep_nil) lkeep_nil keep_nil rfl ?_ | refine g_keep [4] [] [] rfl rfl rfl rfl ?_
                                  refine g_ret ?_
                                  refine g_end1 (.inl rfl) Try.results6 (.tmp rfl) [] (ASub.refl _) (by first | exact AHeap.sub_refl _ | exact hsub) (fun p hp => by cases hp) ⟨rfl, ?_⟩
                                  rfl
                                · exfalso; (try simp only [decide_eq_true_eq, decide_eq_false_iff_not, Bool.not_eq_true', Bool.not_eq_false', Bool.not_eq_eq_eq_not, Bool.not_true, Bool.not_false, Bool.and_eq_true, Bool.or_eq_true, Bool.or_eq_false_iff, beq_iff_eq, beq_eq_false_iff_ne, ne_eq, Int.not_lt, Int.not_le, Decidable.not_not] at hg112); first | exact absurd rfl hg112 | (simp at hg112; done) | simp_all | (revert hg112; decide)
                              · exfalso; (try simp only [decide_eq_true_eq, decide_eq_false_iff_not, Bool.not_eq_true', Bool.not_eq_false', Bool.not_eq_eq_eq_not, Bool.not_true, Bool.not_false, Bool.and_eq_true, Bool.or_eq_true, Bool.or_eq_false_iff, beq_iff_eq, beq_eq_false_iff_ne, ne_eq, Int.not_lt, Int.not_le, Decidable.not_not] at hg104); first | exact absurd h0 hg104 | (simp at hg104; omega)
                            · exfalso; (try simp only [decide_eq_true_eq, decide_eq_false_iff_not, Bool.not_eq_true', Bool.not_eq_false', Bool.not_eq_eq_eq_not, Bool.not_true, Bool.not_false, Bool.and_eq_true, Bool.or_eq_true, Bool.or_eq_false_iff, beq_iff_eq, beq_eq_false_iff_ne, ne_eq, Int.not_lt, Int.not_le, Decidable.not_not] at hg99); first | exact absurd rfl hg99 | (simp at hg99; done) | simp_all | (revert hg99; decide)
                          · exfalso; (try simp only [decide_eq_true_eq, decide_eq_false_iff_not, Bool.not_eq_true', Bool.not_eq_false', Bool.not_eq_eq_eq_not, Bool.not_true, Bool.not_false, Bool.and_eq_true, Bool.or_eq_true, Bool.or_eq_false_iff, beq_iff_eq, beq_eq_false_iff_ne, ne_eq, Int.not_lt, Int.not_le, Decidable.not_not] at hg94); first | exact absurd rfl hg94 | (simp at hg94; done) | simp_all | (revert hg94; decide)
                        · exfalso; (try simp only [decide_eq_true_eq, decide_eq_false_iff_not, Bool.not_eq_true', Bool.not_eq_false', Bool.not_eq_eq_eq_not, Bool.not_true, Bool.not_false, Bool.and_eq_true, Bool.or_eq_true, Bool.or_eq_false_iff, beq_iff_eq, beq_eq_false_iff_ne, ne_eq, Int.not_lt, Int.not_le, Decidable.not_not] at hg91); first | exact absurd rfl hg91 | (simp at hg91; done) | simp_all | (revert hg91; decide)
                    · try simp only [decide_eq_true_eq, decide_eq_false_iff_not, Bool.not_eq_true', Bool.not_eq_false', Bool.not_eq_eq_eq_not, Bool.not_true, Bool.not_false, Bool.and_eq_true, Bool.or_eq_true, Bool.or_eq_false_iff, beq_iff_eq, beq_eq_false_iff_ne, ne_eq, Int.not_lt, Int.not_le, Decidable.not_not] at hg67
                      refine g_step_no (j := 11) (t := 67) rfl rfl rfl rfl rfl rfl rfl ?_
                      refine g_step_no (j := 11) (t := 67) rfl rfl rfl rfl rfl rfl rfl ?_
                      refine g_step_no (j := 11) (t := 67) rfl rfl rfl rfl rfl rfl rfl ?_
                      refine g_step_yes (j := 5) (t := 61) rfl rfl rfl rfl (s_val (v_pick_f rfl rfl) rfl rfl ?_)
                      refine g_step rfl (s_val (v_pick_f rfl rfl) rfl rfl ?_)
                      refine g_nil ?_
                      refine g_next hK20 ?_
                      first | refine g_keep [7, 72] [2, 3, 8] [2, 3, 8] (keep_cons rfl (keep_cons rfl keep_nil)) (lkeep_cons rfl (lkeep_cons rfl (lkeep_cons rfl lkeep_nil))) (keep_cons rfl (keep_cons rfl (keep_cons rfl keep_nil))) rfl ?_ | refine g_keep [7, 72] [2, 3, 8] [2, 3, 8] rfl rfl rfl rfl ?_
                      refine g_cond rfl (fun h => by cases h) (fun _ => ?_)
                      refine g_skip ?_
                      refine g_next hK19 ?_
                      refine g_seq (fun K23 hK23 => ?_)
                      refine g_region ?_
                      refine g_step rfl (s_val (by first | exact v_loadl_all ty46 rfl rfl rfl rfl rfl | exact v_loadl_part (cs := [_, _, _, _, _, _, _]) ty46 rfl rfl rfl rfl rfl rfl) rfl rfl ?_)
                      refine g_step rfl (s_val (by first | exact v_loadl_all ty46 rfl rfl rfl rfl rfl | exact v_loadl_part (cs := [_, _, _, _, _, _, _]) ty46 rfl rfl rfl rfl rfl rfl) rfl rfl ?_)
                      refine g_step rfl (s_callp rfl rfl rfl (join_ok (wthInc a (b.inc + 1)) (setId b a.id) _ hsa hsb) ?_)
                      rintro _ rfl
                      rw [jnAll_same (show (wthInc a (b.inc + 1)).id = (setId b a.id).id from rfl), jn_gt (show (setId b a.id).inc < (wthInc a (b.inc + 1)).inc by show b.inc < b.inc + 1; omega)]
                      refine g_step rfl (s_val (v_move rfl) rfl rfl ?_)
                      refine g_step rfl (s_val (v_extract rfl rfl) rfl rfl ?_)
                      refine g_step rfl (s_val (v_extract rfl rfl) rfl rfl ?_)
                      refine g_step rfl (s_alloc (av := (.agg [(.int .i64 0), (.int .i64 0), (.int .i64 0), (.int .i64 0), (.int .i64 0), (.bool false), .nil0])) ty46 rfl rfl rfl rfl ?_)
                      refine g_step rfl (s_store_all ty46 rfl rfl rfl rfl rfl rfl ?_)
                      refine g_step rfl (s_val (v_assign rfl) rfl rfl ?_)
                      refine g_nil ?_
                      refine g_next hK23 ?_
                      refine g_seq (fun K24 hK24 => ?_)
                      refine g_region ?_
                      refine g_step rfl (s_val (v_move rfl) rfl rfl ?_)
                      refine g_step rfl (s_val (v_eql rfl rfl) rfl rfl ?_)
                      refine g_step rfl (s_val (v_move rfl) rfl rfl ?_)
                      refine g_split 91 rfl (fun hg91 => ?_) (fun hg91 => ?_)
                      · try simp only [decide_eq_true_eq, decide_eq_false_iff_not, Bool.not_eq_true', Bool.not_eq_false', Bool.not_eq_eq_eq_not, Bool.not_true, Bool.not_false, Bool.and_eq_true, Bool.or_eq_true, Bool.or_eq_false_iff, beq_iff_eq, beq_eq_false_iff_ne, ne_eq, Int.not_lt, Int.not_le, Decidable.not_not] at hg91
                        refine g_step_yes (j := 2) (t := 91) rfl rfl rfl rfl (s_val (v_move rfl) rfl rfl ?_)
                        refine g_step rfl (s_val (v_pick_t rfl rfl) rfl rfl ?_)
                        refine g_step rfl (s_val (v_move rfl) rfl rfl ?_)
                        refine g_split 94 rfl (fun hg94 => ?_) (fun hg94 => ?_)
                        · try simp only [decide_eq_true_eq, decide_eq_false_iff_not, Bool.not_eq_true', Bool.not_eq_false', Bool.not_eq_eq_eq_not, Bool.not_true, Bool.not_false, Bool.and_eq_true, Bool.or_eq_true, Bool.or_eq_false_iff, beq_iff_eq, beq_eq_false_iff_ne, ne_eq, Int.not_lt, Int.not_le, Decidable.not_not] at hg94
                          refine g_step_yes (j := 5) (t := 94) rfl rfl rfl rfl (s_val (by first | exact v_loadl_all ty46 rfl rfl rfl rfl rfl | exact v_loadl_part (cs := [_, _, _, _, _, _, _]) ty46 rfl rfl rfl rfl rfl rfl) rfl rfl ?_)
                          refine g_step_yes (j := 5) (t := 94) rfl rfl rfl rfl (s_val (by first | exact v_loadl_all ty46 rfl rfl rfl rfl rfl | exact v_loadl_part (cs := [_, _, _, _, _, _, _]) ty46 rfl rfl rfl rfl rfl rfl) rfl rfl ?_)
                          refine g_step_yes (j := 5) (t := 94) rfl rfl rfl rfl (s_callp rfl rfl rfl (alike_ok (wthInc a (b.inc + 1)) (wthInc a (b.inc + 1)) _ hsa) ?_)
                          rintro _ rfl
                          refine g_step rfl (s_val (v_pick_t rfl rfl) rfl rfl ?_)
                          refine g_step rfl (s_val (v_move rfl) rfl rfl ?_)
                          refine g_split 99 rfl (fun hg99 => ?_) (fun hg99 => ?_)
                          · try simp only [decide_eq_true_eq, decide_eq_false_iff_not, Bool.not_eq_true', Bool.not_eq_false', Bool.not_eq_eq_eq_not, Bool.not_true, Bool.not_false, Bool.and_eq_true, Bool.or_eq_true, Bool.or_eq_false_iff, beq_iff_eq, beq_eq_false_iff_ne, ne_eq, Int.not_lt, Int.not_le, Decidable.not_not] at hg99
                            refine g_step_yes (j := 10) (t := 99) rfl rfl rfl rfl (s_fieldAddr ty46 fo46_2 ty3 rfl rfl ?_)
                            refine g_step_yes (j := 10) (t := 99) rfl rfl rfl rfl (s_val (v_loadl ty3 rfl rfl rfl rfl) rfl rfl ?_)
                            refine g_step_yes (j := 10) (t := 99) rfl rfl rfl rfl (s_val (v_eql rfl rfl) rfl rfl ?_)
                            refine g_step rfl (s_val (v_pick_t rfl rfl) rfl rfl ?_)
                            refine g_step rfl (s_val (v_move rfl) rfl rfl ?_)
                            refine g_split 104 rfl (fun hg104 => ?_) (fun hg104 => ?_)
                            · try simp only [decide_eq_true_eq, decide_eq_false_iff_not, Bool.not_eq_true', Bool.not_eq_false', Bool.not_eq_eq_eq_not, Bool.not_true, Bool.not_false, Bool.and_eq_true, Bool.or_eq_true, Bool.or_eq_false_iff, beq_iff_eq, beq_eq_false_iff_ne, ne_eq, Int.not_lt, Int.not_le, Decidable.not_not] at hg104
                              refine g_step_yes (j := 15) (t := 104) rfl rfl rfl rfl (s_fieldAddr ty46 fo46_1 ty3 rfl rfl ?_)
                              refine g_step_yes (j := 15) (t := 104) rfl rfl rfl rfl (s_val (v_loadl ty3 rfl rfl rfl rfl) rfl rfl ?_)
                              refine g_step_yes (j := 15) (t := 104) rfl rfl rfl rfl (s_fieldAddr ty46 fo46_1 ty3 rfl rfl ?_)
                              refine g_step_yes (j := 15) (t := 104) rfl rfl rfl rfl (s_val (v_loadl ty3 rfl rfl rfl rfl) rfl rfl ?_)
                              refine g_step_yes (j := 15) (t := 104) rfl rfl rfl rfl (s_val (v_add rfl rfl (by omega)) rfl rfl ?_)
                              refine g_step_yes (j := 15) (t := 104) rfl rfl rfl rfl (s_val (v_eql rfl rfl) rfl rfl ?_)
                              refine g_step rfl (s_val (v_pick_t rfl rfl) rfl rfl ?_)
                              refine g_step rfl (s_val (v_move rfl) rfl rfl ?_)
                              refine g_split 112 rfl (fun hg112 => ?_) (fun hg112 => ?_)
                              · try simp only [decide_eq_true_eq, decide_eq_false_iff_not, Bool.not_eq_true', Bool.not_eq_false', Bool.not_eq_eq_eq_not, Bool.not_true, Bool.not_false, Bool.and_eq_true, Bool.or_eq_true, Bool.or_eq_false_iff, beq_iff_eq, beq_eq_false_iff_ne, ne_eq, Int.not_lt, Int.not_le, Decidable.not_not] at hg112
                                refine g_step_yes (j := 23) (t := 112) rfl rfl rfl rfl (s_callp rfl rfl rfl (awake25_ok _) ?_)
                                rintro _ rfl
                                refine g_step rfl (s_val (v_pick_t rfl rfl) rfl rfl ?_)
                                refine g_step rfl (s_val (v_assign rfl) rfl rfl ?_)
                                refine g_nil ?_
                                refine g_next hK24 ?_
                                first | refine g_keep [4] [] [] (keep_cons rfl keep_nil) lkeep_nil keep_nil rfl ?_ | refine g_keep [4] [] [] rfl rfl rfl rfl ?_
                                refine g_ret ?_
                                refine g_end1 (.inl rfl) Try.results6 (.tmp rfl) [] (ASub.refl _) (by first | exact AHeap.sub_refl _ | exact hsub) (fun p hp => by cases hp) ⟨rfl, ?_⟩
                                rfl
                              · exfalso; (try simp only [decide_eq_true_eq, decide_eq_false_iff_not, Bool.not_eq_true', Bool.not_eq_false', Bool.not_eq_eq_eq_not, Bool.not_true, Bool.not_false, Bool.and_eq_true, Bool.or_eq_true, Bool.or_eq_false_iff, beq_iff_eq, beq_eq_false_iff_ne, ne_eq, Int.not_lt, Int.not_le, Decidable.not_not] at hg112); first | exact absurd rfl hg112 | (simp at hg112; done) | simp_all | (revert hg112; decide)
                            · exfalso; (try simp only [decide_eq_true_eq, decide_eq_false_iff_not, Bool.not_eq_true', Bool.not_eq_false', Bool.not_eq_eq_eq_not, Bool.not_true, Bool.not_false, Bool.and_eq_true, Bool.or_eq_true, Bool.or_eq_false_iff, beq_iff_eq, beq_eq_false_iff_ne, ne_eq, Int.not_lt, Int.not_le, Decidable.not_not] at hg104); first | exact absurd h0 hg104 | (simp at hg104; omega)
                          · exfalso; (try simp only [decide_eq_true_eq, decide_eq_false_iff_not, Bool.not_eq_true', Bool.not_eq_false', Bool.not_eq_eq_eq_not, Bool.not_true, Bool.not_false, Bool.and_eq_true, Bool.or_eq_true, Bool.or_eq_false_iff, beq_iff_eq, beq_eq_false_iff_ne, ne_eq, Int.not_lt, Int.not_le, Decidable.not_not] at hg99); first | exact absurd rfl hg99 | (simp at hg99; done) | simp_all | (revert hg99; decide)
                        · exfalso; (try simp only [decide_eq_true_eq, decide_eq_false_iff_not, Bool.not_eq_true', Bool.not_eq_false', Bool.not_eq_eq_eq_not, Bool.not_true, Bool.not_false, Bool.and_eq_true, Bool.or_eq_true, Bool.or_eq_false_iff, beq_iff_eq, beq_eq_false_iff_ne, ne_eq, Int.not_lt, Int.not_le, Decidable.not_not] at hg94); first | exact absurd rfl hg94 | (simp at hg94; done) | simp_all | (revert hg94; decide)
                      · exfalso; (try simp only [decide_eq_true_eq, decide_eq_false_iff_not, Bool.not_eq_true', Bool.not_eq_false', Bool.not_eq_eq_eq_not, Bool.not_true, Bool.not_false, Bool.and_eq_true, Bool.or_eq_true, Bool.or_eq_false_iff, beq_iff_eq, beq_eq_false_iff_ne, ne_eq, Int.not_lt, Int.not_le, Decidable.not_not] at hg91); first | exact absurd rfl hg91 | (simp at hg91; done) | simp_all | (revert hg91; decide)

end Go.Proofs.Ytgipbhfblmblcaa

import Derived.Test.YtgipbhfblmblcaaMember2
import Derived.Test.YtgipbhfblmblcaaPMember3
set_option maxHeartbeats 8000000
set_option linter.unusedSimpArgs false
set_option linter.unusedVariables false
set_option maxRecDepth 100000
namespace Go.Proofs.Ytgipbhfblmblcaa
open Go Go.Proofs.Ytgipbhfblmblcaa.AM
theorem awake25_ok (G : AHeap) : PCalls Try.prog 23 [] G (fun v => v = .bool true) := by
  refine LCalls.intro 45 fi23 rfl Try.ntmps23 rfl (fun _ h => h.elim) (fun H hH w0 hw0 => ?_)
  refine g_seq (fun K0 hK0 => ?_)
  refine g_region ?_
  refine g_step rfl (s_val (v_assign rfl) rfl rfl ?_)
  refine g_nil ?_
  refine g_next hK0 ?_
  refine g_seq (fun K1 hK1 => ?_)
  refine g_region ?_
  refine g_step rfl (s_val (v_sub (b := (encSp ⟨1, 1⟩)) (v_build (vs := [(0, _), (1, _)]) (zs := [(.int .i64 0), (.int .i64 0)]) (cells := [_, _]) ty43 pl43 rfl rfl rfl) (ASub.of_wk rfl)) rfl rfl ?_)
  refine g_step rfl (s_alloc (av := (.agg [(.int .i64 0), (.int .i64 0)])) ty43 rfl rfl rfl rfl ?_)
  refine g_step rfl (s_store_all ty43 rfl rfl rfl rfl rfl rfl ?_)
  refine g_nil ?_
  refine g_next hK1 ?_
  refine g_seq (fun K2 hK2 => ?_)
  refine g_region ?_
  refine g_step rfl (s_val (by first | exact v_loadl_all ty43 rfl rfl rfl rfl rfl | exact v_loadl_part (cs := [_, _]) ty43 rfl rfl rfl rfl rfl rfl) rfl rfl ?_)
  refine g_step rfl (s_val (v_sub (b := (encR ⟨3, 5, 0, ⟨1, 1⟩, false, []⟩)) (v_build (vs := [(0, _), (1, _), (3, _)]) (zs := [(.int .i64 0), (.int .i64 0), (.int .i64 0), (.int .i64 0), (.int .i64 0), (.bool false), .nil0]) (cells := [_, _, _, _, _, _, _]) ty46 pl46 rfl rfl rfl) (ASub.of_wk rfl)) rfl rfl ?_)
  refine g_step rfl (s_call rfl rfl rfl (begin_ok (⟨3, 5, 0, ⟨1, 1⟩, false, []⟩ : Rc) 1 _ (by simp [Small, bsize]) (by decide) rfl (by decide) (by decide)) (fun _ h => h.elim) ?_)
  rintro n1 rv1 effs1 hn1 hdom1 ⟨p, q, hp1, hq1, hpq, rfl, rfl⟩ hok1
  obtain ⟨r, hT, hnp, hnr, hsub⟩ := begin_st (own := (⟨3, 5, 0, ⟨1, 1⟩, false, []⟩ : Rc)) (room := 1) hw0 (G := H) (AHeap.sub_refl _) (Nat.le_trans hn1 hp1) (Nat.le_trans hn1 hq1) hpq
  generalize setAll H _ = G1 at hT hsub ⊢
  refine g_step rfl (s_val (v_move rfl) rfl rfl ?_)
  refine g_step rfl (s_val (v_extract rfl rfl) rfl rfl ?_)
  refine g_step rfl (s_val (v_extract rfl rfl) rfl rfl ?_)
  refine g_step rfl (s_val (v_assign rfl) rfl rfl ?_)
  refine g_step rfl (s_val (v_assign rfl) rfl rfl ?_)
  refine g_nil ?_
  refine g_next hK2 ?_
  refine g_seq (fun K3 hK3 => ?_)
  refine g_seq (fun K4 hK4 => ?_)
  refine g_region ?_
  refine g_step rfl (s_val (v_move rfl) rfl rfl ?_)
  refine g_step rfl (s_val (v_neq rfl rfl) rfl rfl ?_)
  refine g_step rfl (s_val (v_move rfl) rfl rfl ?_)
  refine g_split 15 rfl (fun hg15 => ?_) (fun hg15 => ?_)
  · exfalso; (try simp only [decide_eq_true_eq, decide_eq_false_iff_not, Bool.not_eq_true', Bool.not_eq_false', Bool.not_eq_eq_eq_not, Bool.not_true, Bool.not_false, Bool.and_eq_true, Bool.or_eq_true, Bool.or_eq_false_iff, beq_iff_eq, beq_eq_false_iff_ne, ne_eq, Int.not_lt, Int.not_le, Decidable.not_not] at hg15); simp at hg15
  · try simp only [decide_eq_true_eq, decide_eq_false_iff_not, Bool.not_eq_true', Bool.not_eq_false', Bool.not_eq_eq_eq_not, Bool.not_true, Bool.not_false, Bool.and_eq_true, Bool.or_eq_true, Bool.or_eq_false_iff, beq_iff_eq, beq_eq_false_iff_ne, ne_eq, Int.not_lt, Int.not_le, Decidable.not_not] at hg15
    refine g_step_yes (j := 2) (t := 15) rfl rfl rfl rfl (s_val (v_move rfl) rfl rfl ?_)
    refine g_step_yes (j := 2) (t := 15) rfl rfl rfl rfl (s_val (by first | exact v_ptr_eql_nil ty48 rfl rfl rfl | exact v_nil_eql_nil ty48 rfl rfl | exact v_ptrO_eql ty48 rfl rfl) rfl rfl ?_)
    refine g_step rfl (s_val (v_pick_f rfl rfl) rfl rfl ?_)
    refine g_nil ?_
    refine g_next hK4 ?_
    refine g_cond rfl (fun hc18 => ?_) (fun hc18 => ?_)
    · exfalso; (try simp only [decide_eq_true_eq, decide_eq_false_iff_not, Bool.not_eq_true', Bool.not_eq_false', Bool.not_eq_eq_eq_not, Bool.not_true, Bool.not_false, Bool.and_eq_true, Bool.or_eq_true, Bool.or_eq_false_iff, beq_iff_eq, beq_eq_false_iff_ne, ne_eq, Int.not_lt, Int.not_le, Decidable.not_not] at hc18); simp at hc18
    · try simp only [decide_eq_true_eq, decide_eq_false_iff_not, Bool.not_eq_true', Bool.not_eq_false', Bool.not_eq_eq_eq_not, Bool.not_true, Bool.not_false, Bool.and_eq_true, Bool.or_eq_true, Bool.or_eq_false_iff, beq_iff_eq, beq_eq_false_iff_ne, ne_eq, Int.not_lt, Int.not_le, Decidable.not_not] at hc18
      refine g_skip ?_
      refine g_next hK3 ?_
      refine g_seq (fun K5 hK5 => ?_)
      refine g_region ?_
      refine g_step rfl (s_val (v_move rfl) rfl rfl ?_)
      refine g_step rfl (s_val (by first | exact v_loadl_all ty43 rfl rfl rfl rfl rfl | exact v_loadl_part (cs := [_, _]) ty43 rfl rfl rfl rfl rfl rfl) rfl rfl ?_)
      refine g_step rfl (s_val (v_sub (b := (encR ⟨3, 5, 1, ⟨1, 1⟩, false, []⟩)) (v_build (vs := [(0, _), (1, _), (2, _), (3, _)]) (zs := [(.int .i64 0), (.int .i64 0), (.int .i64 0), (.int .i64 0), (.int .i64 0), (.bool false), .nil0]) (cells := [_, _, _, _, _, _, _]) ty46 pl46 rfl rfl rfl) (ASub.of_wk rfl)) rfl rfl ?_)
      refine g_step rfl (s_call rfl rfl rfl (mjoin_ok p r 3 1 [(⟨3, 5, 0, ⟨1, 1⟩, false, []⟩ : Rc)] ⟨3, 5, 1, ⟨1, 1⟩, false, []⟩ (by simp [Small, bsize]) _ hT (by simp) (by simp [Small, bsize]) 0 ⟨3, 5, 0, ⟨1, 1⟩, false, []⟩ rfl rfl rfl rfl) (fun b hb => .inr (by rcases hb with rfl | rfl; exact hnp; exact hnr)) ?_)
      rintro n2 rv2 effs2 hn2 hdom2 ⟨rfl, hTE⟩ hok2
      obtain ⟨r, hT, hnp, hnr, hsub⟩ := MSt.step hw0 hT hnp hnr hsub hn2 hdom2 hTE
      clear hTE hok2
      generalize setAll _ effs2 = G2 at hT hsub ⊢
      have hJ : joinT 3 1 [(⟨3, 5, 0, ⟨1, 1⟩, false, []⟩ : Rc)] (⟨3, 5, 1, ⟨1, 1⟩, false, []⟩ : Rc) = ([⟨3, 6, 0, ⟨1, 1⟩, false, []⟩], 4) := by decide
      rw [hJ] at hT ⊢
      refine g_step rfl (s_val (v_assign rfl) rfl rfl ?_)
      refine g_nil ?_
      refine g_next hK5 ?_
      refine g_seq (fun K6 hK6 => ?_)
      refine g_region ?_
      refine g_step rfl (s_val (v_move rfl) rfl rfl ?_)
      refine g_step rfl (s_val (by first | exact v_loadl_all ty43 rfl rfl rfl rfl rfl | exact v_loadl_part (cs := [_, _]) ty43 rfl rfl rfl rfl rfl rfl) rfl rfl ?_)
      refine g_step rfl (s_val (v_sub (b := (encR ⟨4, 0, 0, ⟨1, 1⟩, false, []⟩)) (v_build (vs := [(0, _), (3, _)]) (zs := [(.int .i64 0), (.int .i64 0), (.int .i64 0), (.int .i64 0), (.int .i64 0), (.bool false), .nil0]) (cells := [_, _, _, _, _, _, _]) ty46 pl46 rfl rfl rfl) (ASub.of_wk rfl)) rfl rfl ?_)
      refine g_step rfl (s_call rfl rfl rfl (mjoin_ok p r 3 1 [(⟨3, 6, 0, ⟨1, 1⟩, false, []⟩ : Rc)] ⟨4, 0, 0, ⟨1, 1⟩, false, []⟩ (by simp [Small, bsize]) _ hT (by simp) (by simp [Small, bsize]) 0 ⟨3, 6, 0, ⟨1, 1⟩, false, []⟩ rfl rfl rfl rfl) (fun b hb => .inr (by rcases hb with rfl | rfl; exact hnp; exact hnr)) ?_)
      rintro n2 rv2 effs2 hn2 hdom2 ⟨rfl, hTE⟩ hok2
      obtain ⟨r, hT, hnp, hnr, hsub⟩ := MSt.step hw0 hT hnp hnr hsub hn2 hdom2 hTE
      clear hTE hok2
      generalize setAll _ effs2 = G2 at hT hsub ⊢
      have hJ : joinT 3 1 [(⟨3, 6, 0, ⟨1, 1⟩, false, []⟩ : Rc)] (⟨4, 0, 0, ⟨1, 1⟩, false, []⟩ : Rc) = ([⟨3, 6, 0, ⟨1, 1⟩, false, []⟩], 3) := by decide
      rw [hJ] at hT ⊢
      refine g_step rfl (s_val (v_assign rfl) rfl rfl ?_)
      refine g_nil ?_
      refine g_next hK6 ?_
      first | refine g_keep [2, 4, 5] [] [] (keep_cons rfl (keep_cons rfl (keep_cons rfl keep_nil))) lkeep_nil keep_nil rfl ?_ | refine g_keep [2, 4, 5] [] [] rfl rfl rfl rfl ?_
      refine g_seq (fun K7 hK7 => ?_)
      refine g_region ?_
      refine g_step rfl (s_val (v_move rfl) rfl rfl ?_)
      refine g_step rfl (s_val (v_eql rfl rfl) rfl rfl ?_)
      refine g_step rfl (s_val (v_move rfl) rfl rfl ?_)
      refine g_split 29 rfl (fun hg29 => ?_) (fun hg29 => ?_)
      · try simp only [decide_eq_true_eq, decide_eq_false_iff_not, Bool.not_eq_true', Bool.not_eq_false', Bool.not_eq_eq_eq_not, Bool.not_true, Bool.not_false, Bool.and_eq_true, Bool.or_eq_true, Bool.or_eq_false_iff, beq_iff_eq, beq_eq_false_iff_ne, ne_eq, Int.not_lt, Int.not_le, Decidable.not_not] at hg29
        refine g_step_yes (j := 2) (t := 29) rfl rfl rfl rfl (s_val (v_move rfl) rfl rfl ?_)
        refine g_step_yes (j := 2) (t := 29) rfl rfl rfl rfl (s_callp rfl rfl rfl (mself_ok p r 3 1 [(⟨3, 6, 0, ⟨1, 1⟩, false, []⟩ : Rc)] _ hT (by simp) (by simp [Small, bsize])) ?_)
        rintro _ rfl
        rw [rfind_one (⟨3, 6, 0, ⟨1, 1⟩, false, []⟩ : Rc) rfl]
        refine g_step_yes (j := 2) (t := 29) rfl rfl rfl rfl (s_val (v_field ty46 fo46_1 ty3 rfl rfl rfl) rfl rfl ?_)
        refine g_step_yes (j := 2) (t := 29) rfl rfl rfl rfl (s_val (v_eql rfl rfl) rfl rfl ?_)
        refine g_step rfl (s_val (v_pick_t rfl rfl) rfl rfl ?_)
        refine g_step rfl (s_val (v_move rfl) rfl rfl ?_)
        refine g_split 35 rfl (fun hg35 => ?_) (fun hg35 => ?_)
        · try simp only [decide_eq_true_eq, decide_eq_false_iff_not, Bool.not_eq_true', Bool.not_eq_false', Bool.not_eq_eq_eq_not, Bool.not_true, Bool.not_false, Bool.and_eq_true, Bool.or_eq_true, Bool.or_eq_false_iff, beq_iff_eq, beq_eq_false_iff_ne, ne_eq, Int.not_lt, Int.not_le, Decidable.not_not] at hg35
          refine g_step_yes (j := 8) (t := 35) rfl rfl rfl rfl (s_val (v_move rfl) rfl rfl ?_)
          refine g_step_yes (j := 8) (t := 35) rfl rfl rfl rfl (s_callp rfl rfl rfl (mself_ok p r 3 1 [(⟨3, 6, 0, ⟨1, 1⟩, false, []⟩ : Rc)] _ hT (by simp) (by simp [Small, bsize])) ?_)
          rintro _ rfl
          rw [rfind_one (⟨3, 6, 0, ⟨1, 1⟩, false, []⟩ : Rc) rfl]
          refine g_step_yes (j := 8) (t := 35) rfl rfl rfl rfl (s_val (v_field ty46 fo46_2 ty3 rfl rfl rfl) rfl rfl ?_)
          refine g_step_yes (j := 8) (t := 35) rfl rfl rfl rfl (s_val (v_eql rfl rfl) rfl rfl ?_)
          refine g_step rfl (s_val (v_pick_t rfl rfl) rfl rfl ?_)
          refine g_step rfl (s_val (v_move rfl) rfl rfl ?_)
          refine g_split 41 rfl (fun hg41 => ?_) (fun hg41 => ?_)
          · try simp only [decide_eq_true_eq, decide_eq_false_iff_not, Bool.not_eq_true', Bool.not_eq_false', Bool.not_eq_eq_eq_not, Bool.not_true, Bool.not_false, Bool.and_eq_true, Bool.or_eq_true, Bool.or_eq_false_iff, beq_iff_eq, beq_eq_false_iff_ne, ne_eq, Int.not_lt, Int.not_le, Decidable.not_not] at hg41
            refine g_step_yes (j := 14) (t := 41) rfl rfl rfl rfl (s_val (v_move rfl) rfl rfl ?_)
            refine g_step_yes (j := 14) (t := 41) rfl rfl rfl rfl (s_val (v_eql rfl rfl) rfl rfl ?_)
            refine g_step rfl (s_val (v_pick_t rfl rfl) rfl rfl ?_)
            refine g_step rfl (s_val (v_assign rfl) rfl rfl ?_)
            refine g_nil ?_
            refine g_next hK7 ?_
            refine g_ret ?_
            refine g_end1 (.inl rfl) Try.results23 (.tmp rfl) [] (ASub.refl _) hsub (fun p hp => by cases hp) ⟨rfl, ?_⟩
            rfl
          · exfalso; (try simp only [decide_eq_true_eq, decide_eq_false_iff_not, Bool.not_eq_true', Bool.not_eq_false', Bool.not_eq_eq_eq_not, Bool.not_true, Bool.not_false, Bool.and_eq_true, Bool.or_eq_true, Bool.or_eq_false_iff, beq_iff_eq, beq_eq_false_iff_ne, ne_eq, Int.not_lt, Int.not_le, Decidable.not_not] at hg41); simp at hg41
        · exfalso; (try simp only [decide_eq_true_eq, decide_eq_false_iff_not, Bool.not_eq_true', Bool.not_eq_false', Bool.not_eq_eq_eq_not, Bool.not_true, Bool.not_false, Bool.and_eq_true, Bool.or_eq_true, Bool.or_eq_false_iff, beq_iff_eq, beq_eq_false_iff_ne, ne_eq, Int.not_lt, Int.not_le, Decidable.not_not] at hg35); simp at hg35
      · exfalso; (try simp only [decide_eq_true_eq, decide_eq_false_iff_not, Bool.not_eq_true', Bool.not_eq_false', Bool.not_eq_eq_eq_not, Bool.not_true, Bool.not_false, Bool.and_eq_true, Bool.or_eq_true, Bool.or_eq_false_iff, beq_iff_eq, beq_eq_false_iff_ne, ne_eq, Int.not_lt, Int.not_le, Decidable.not_not] at hg29); simp at hg29

theorem few25_ok (own : Rc) (acts : List Ac) (hho : Held own.bag) (hha : ∀ a ∈ acts, Held a.rc.bag) (hlen : acts.length ≤ 140737488351232) (G : AHeap) : PCalls Try.prog 29 [encR own, .imm (acts.map encAc)] G (fun v => v = .bool (fewA own acts)) := by
  refine LCalls.intro 29 fi29 rfl Try.ntmps29 rfl (fun _ h => h.elim) (fun H hH w0 hw0 => ?_)
  refine g_seq (fun K0 hK0 => ?_)
  refine g_region ?_
  refine g_step rfl (s_box rfl rfl rfl rfl ?_)
  refine g_step rfl (s_val (v_assign rfl) rfl rfl ?_)
  refine g_nil ?_
  refine g_next hK0 ?_
  refine g_seq (fun K1 hK1 => ?_)
  refine g_seq (fun K2 hK2 => ?_)
  refine g_region ?_
  refine g_step rfl (s_val (v_move rfl) rfl rfl ?_)
  refine g_step rfl (s_val (v_len ty58 rfl (by first | rfl | assumption) (by first | exact List.length_map .. | rfl)) rfl rfl ?_)
  refine g_step rfl (s_val (v_gtr rfl rfl) rfl rfl ?_)
  refine g_step rfl (s_val (v_move rfl) rfl rfl ?_)
  refine g_split 9 rfl (fun hg9 => ?_) (fun hg9 => ?_)
  · try simp only [decide_eq_true_eq, decide_eq_false_iff_not, Bool.not_eq_true', Bool.not_eq_false', Bool.not_eq_eq_eq_not, Bool.not_true, Bool.not_false, Bool.and_eq_true, Bool.or_eq_true, Bool.or_eq_false_iff, beq_iff_eq, beq_eq_false_iff_ne, ne_eq, Int.not_lt, Int.not_le, Decidable.not_not] at hg9
    refine g_step_no (j := 3) (t := 9) rfl rfl rfl rfl rfl rfl rfl ?_
    refine g_step_no (j := 3) (t := 9) rfl rfl rfl rfl rfl rfl rfl ?_
    refine g_step_no (j := 3) (t := 9) rfl rfl rfl rfl rfl rfl rfl ?_
    refine g_step_no (j := 3) (t := 9) rfl rfl rfl rfl rfl rfl rfl ?_
    refine g_step rfl (s_val (v_pick_t rfl rfl) rfl rfl ?_)
    refine g_nil ?_
    refine g_next hK2 ?_
    refine g_cond rfl (fun _ => ?_) (fun h => by cases h)
    refine g_seq (fun K3 hK3 => ?_)
    refine g_region ?_
    refine g_step rfl (s_val (v_assign rfl) rfl rfl ?_)
    refine g_nil ?_
    refine g_next hK3 ?_
    refine g_ret ?_
    refine g_then_ret ?_
    refine g_end1 (.inl rfl) Try.results29 (.tmp rfl) [] (ASub.refl _) (AHeap.sub_refl _) (fun p hp => by cases hp) ⟨rfl, ?_⟩
    first | (first | (rw [fewA, decide_eq_false (by omega)]; rfl) | (simp_all [fewA]; done); done) | (first | (rw [fewA, decide_eq_false (by omega)]; rfl) | (simp_all [fewA]; done); rfl)
  · try simp only [decide_eq_true_eq, decide_eq_false_iff_not, Bool.not_eq_true', Bool.not_eq_false', Bool.not_eq_eq_eq_not, Bool.not_true, Bool.not_false, Bool.and_eq_true, Bool.or_eq_true, Bool.or_eq_false_iff, beq_iff_eq, beq_eq_false_iff_ne, ne_eq, Int.not_lt, Int.not_le, Decidable.not_not] at hg9
    refine g_step_yes (j := 3) (t := 9) rfl rfl rfl rfl (s_val (by first | exact v_loadl_all ty46 rfl rfl rfl rfl rfl | exact v_loadl_part (cs := [_, _, _, _, _, _, _]) ty46 rfl rfl rfl rfl rfl rfl) rfl rfl ?_)
    refine g_step_yes (j := 3) (t := 9) rfl rfl rfl rfl (s_lit ty22 ty46 rfl rfl rfl rfl rfl rfl rfl ?_)
    refine g_step_yes (j := 3) (t := 9) rfl rfl rfl rfl (s_callp rfl rfl rfl (fewL_ok [own] _ _ rfl (by simpa using hho) (by simp)) ?_)
    rintro _ rfl
    rw [fewL_one]
    refine g_step_yes (j := 3) (t := 9) rfl rfl rfl rfl (s_val (v_not rfl) rfl rfl ?_)
    refine g_step rfl (s_val (v_pick_f rfl rfl) rfl rfl ?_)
    refine g_nil ?_
    refine g_next hK2 ?_
    refine g_cond rfl (fun hc14 => ?_) (fun hc14 => ?_)
    · try simp only [decide_eq_true_eq, decide_eq_false_iff_not, Bool.not_eq_true', Bool.not_eq_false', Bool.not_eq_eq_eq_not, Bool.not_true, Bool.not_false, Bool.and_eq_true, Bool.or_eq_true, Bool.or_eq_false_iff, beq_iff_eq, beq_eq_false_iff_ne, ne_eq, Int.not_lt, Int.not_le, Decidable.not_not] at hc14
      refine g_seq (fun K4 hK4 => ?_)
      refine g_region ?_
      refine g_step rfl (s_val (v_assign rfl) rfl rfl ?_)
      refine g_nil ?_
      refine g_next hK4 ?_
      refine g_ret ?_
      refine g_then_ret ?_
      refine g_end1 (.inl rfl) Try.results29 (.tmp rfl) [] (ASub.refl _) (AHeap.sub_refl _) (fun p hp => by cases hp) ⟨rfl, ?_⟩
      first | (first | (rw [fewA, decide_eq_false (by omega)]; rfl) | (simp_all [fewA]; done); done) | (first | (rw [fewA, decide_eq_false (by omega)]; rfl) | (simp_all [fewA]; done); rfl)
    · try simp only [decide_eq_true_eq, decide_eq_false_iff_not, Bool.not_eq_true', Bool.not_eq_false', Bool.not_eq_eq_eq_not, Bool.not_true, Bool.not_false, Bool.and_eq_true, Bool.or_eq_true, Bool.or_eq_false_iff, beq_iff_eq, beq_eq_false_iff_ne, ne_eq, Int.not_lt, Int.not_le, Decidable.not_not] at hc14
      refine g_skip ?_
      refine g_next hK1 ?_
      refine g_seq (fun K5 hK5 => ?_)
      refine g_seq (fun K6 hK6 => ?_)
      refine g_region ?_
      refine g_step rfl (s_val (v_assign rfl) rfl rfl ?_)
      refine g_nil ?_
      refine g_next hK6 ?_
      refine g_block ?_
      first | refine g_keep [1, 5] [] [] (keep_cons rfl (keep_cons rfl keep_nil)) lkeep_nil keep_nil rfl ?_ | refine g_keep [1, 5] [] [] rfl rfl rfl rfl ?_
      refine g_loop (fun n env L B G => ∃ (k : Nat) , k ≤ acts.length ∧ n = acts.length - k ∧ env = [(1, .imm (acts.map encAc)), (5, .int .i64 (k : Int))] ∧ L = [] ∧ B = [] ∧ H = G ∧ (acts.take k).all (fun a => few a.rc.bag) = true) (acts.length) ⟨0, Nat.zero_le _, rfl, rfl, rfl, rfl, rfl, rfl⟩ (fun n env L B G hI => ?_)
      obtain ⟨k, hk, rfl, rfl, rfl, rfl, rfl, hc⟩ := hI
      refine g_seq (fun K7 hK7 => ?_)
      refine g_seq (fun K8 hK8 => ?_)
      refine g_region ?_
      refine g_step rfl (s_val (v_move rfl) rfl rfl ?_)
      refine g_step rfl (s_val (v_move rfl) rfl rfl ?_)
      refine g_step rfl (s_val (v_len ty58 rfl (by first | rfl | assumption) (by first | exact List.length_map .. | rfl)) rfl rfl ?_)
      refine g_step rfl (s_val (v_lss rfl rfl) rfl rfl ?_)
      refine g_nil ?_
      refine g_next hK8 ?_
      refine g_cond rfl (fun hc18 => ?_) (fun hc18 => ?_)
      · try simp only [decide_eq_true_eq, decide_eq_false_iff_not, Bool.not_eq_true', Bool.not_eq_false', Bool.not_eq_eq_eq_not, Bool.not_true, Bool.not_false, Bool.and_eq_true, Bool.or_eq_true, Bool.or_eq_false_iff, beq_iff_eq, beq_eq_false_iff_ne, ne_eq, Int.not_lt, Int.not_le, Decidable.not_not] at hc18
        obtain ⟨a, ha⟩ := get_some (l := acts) (k := k) (by omega)
        refine g_skip ?_
        refine g_next hK7 ?_
        refine g_seq (fun K9 hK9 => ?_)
        refine g_block ?_
        refine g_seq (fun K10 hK10 => ?_)
        refine g_region ?_
        refine g_step rfl (s_val (v_move rfl) rfl rfl ?_)
        refine g_step rfl (s_val (v_move rfl) rfl rfl ?_)
        refine g_step rfl (s_val (v_indexAddr ty58 ty65 rfl rfl (by first | rfl | assumption) (by first | rfl | exact (rfl : (0 : Int) = ((0 : Nat) : Int)) | exact (Int.toNat_of_nonneg (by omega)).symm) (map_get ha) rfl) rfl rfl ?_)
        refine g_step rfl (s_val (by first | exact v_fieldAddr ty65 fo65_1 ty46 rfl | exact v_fieldAddr_box ty65 fo65_1 ty46 rfl) rfl rfl ?_)
        refine g_step rfl (s_val (by first | exact v_load_elt ty46 rfl rfl (by first | rfl | assumption) (map_get ha) rfl rfl | exact v_load_box_all ty46 rfl rfl (by assumption) rfl rfl | exact v_load_part (cs := [_, _, _, _, _, _, _]) ty46 rfl rfl (by first | rfl | assumption) (map_get ha) rfl rfl rfl | exact v_load_box_part (cs := [_, _, _, _, _, _, _]) ty46 rfl rfl (by assumption) rfl rfl rfl) rfl rfl ?_)
        refine g_step rfl (s_lit ty22 ty46 rfl rfl rfl rfl rfl rfl rfl ?_)
        refine g_step rfl (s_callp rfl rfl rfl (fewL_ok [a.rc] _ _ rfl (by simpa using hha a (mem_get ha)) (by simp)) ?_)
        rintro _ rfl
        rw [fewL_one]
        refine g_step rfl (s_val (v_not rfl) rfl rfl ?_)
        refine g_nil ?_
        refine g_next hK10 ?_
        refine g_cond rfl (fun hc28 => ?_) (fun hc28 => ?_)
        · try simp only [decide_eq_true_eq, decide_eq_false_iff_not, Bool.not_eq_true', Bool.not_eq_false', Bool.not_eq_eq_eq_not, Bool.not_true, Bool.not_false, Bool.and_eq_true, Bool.or_eq_true, Bool.or_eq_false_iff, beq_iff_eq, beq_eq_false_iff_ne, ne_eq, Int.not_lt, Int.not_le, Decidable.not_not] at hc28
          refine g_seq (fun K11 hK11 => ?_)
          refine g_region ?_
          refine g_step rfl (s_val (v_assign rfl) rfl rfl ?_)
          refine g_nil ?_
          refine g_next hK11 ?_
          refine g_ret ?_
          refine g_block_ret ?_
          refine g_then_ret ?_
          refine g_then_ret ?_
          refine g_block_ret ?_
          refine g_then_ret ?_
          refine g_end1 (.inl rfl) Try.results29 (.tmp rfl) [] (ASub.refl _) (AHeap.sub_refl _) (fun p hp => by cases hp) ⟨rfl, ?_⟩
          first | (rw [fewA, all_stop ha (by simpa using hc28), Bool.and_false, Bool.and_false]; done) | (rw [fewA, all_stop ha (by simpa using hc28), Bool.and_false, Bool.and_false]; rfl)
        · try simp only [decide_eq_true_eq, decide_eq_false_iff_not, Bool.not_eq_true', Bool.not_eq_false', Bool.not_eq_eq_eq_not, Bool.not_true, Bool.not_false, Bool.and_eq_true, Bool.or_eq_true, Bool.or_eq_false_iff, beq_iff_eq, beq_eq_false_iff_ne, ne_eq, Int.not_lt, Int.not_le, Decidable.not_not] at hc28
          refine g_skip ?_
          refine g_block_normal ?_
          refine g_next hK9 ?_
          refine g_region ?_
          refine g_step rfl (s_val (v_move rfl) rfl rfl ?_)
          refine g_step rfl (s_val (v_add rfl rfl (by omega)) rfl rfl ?_)
          refine g_step rfl (s_val (v_assign rfl) rfl rfl ?_)
          refine g_nil ?_
          first | refine g_keep [1, 5] [] [] (keep_cons rfl (keep_cons rfl keep_nil)) lkeep_nil keep_nil rfl ?_ | refine g_keep [1, 5] [] [] rfl rfl rfl rfl ?_
          exact g_round _ (by omega) ⟨k + 1, by omega, rfl, rfl, rfl, rfl, rfl, by rw [all_snoc ha, hc, Bool.true_and]; simpa using hc28⟩
      · try simp only [decide_eq_true_eq, decide_eq_false_iff_not, Bool.not_eq_true', Bool.not_eq_false', Bool.not_eq_eq_eq_not, Bool.not_true, Bool.not_false, Bool.and_eq_true, Bool.or_eq_true, Bool.or_eq_false_iff, beq_iff_eq, beq_eq_false_iff_ne, ne_eq, Int.not_lt, Int.not_le, Decidable.not_not] at hc18
        obtain rfl : k = acts.length := by omega
        rw [List.take_length] at hc
        refine g_exit ?_
        refine g_then_exit ?_
        refine g_then_exit ?_
        refine g_block_same ?_
        refine g_next hK5 ?_
        refine g_seq (fun K12 hK12 => ?_)
        refine g_region ?_
        refine g_step rfl (s_val (v_assign rfl) rfl rfl ?_)
        refine g_nil ?_
        refine g_next hK12 ?_
        refine g_ret ?_
        refine g_end1 (.inl rfl) Try.results29 (.tmp rfl) [] (ASub.refl _) (AHeap.sub_refl _) (fun p hp => by cases hp) ⟨rfl, ?_⟩
        first | (rw [fewA, hc]; simp_all; omega; done) | (rw [fewA, hc]; simp_all; omega; rfl)

end Go.Proofs.Ytgipbhfblmblcaa

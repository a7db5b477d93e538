import Derived.Test.YtmnngdbcfdnefaaLattice
set_option linter.unusedSimpArgs false
set_option linter.unusedVariables false
set_option maxRecDepth 100000
namespace Go.Proofs.Ytmnngdbcfdnefaa
open Go Go.Proofs.Ytmnngdbcfdnefaa.AM
theorem awake09_ok (G : AHeap) : PCalls Try.prog 43 [] G (fun v => v = .bool true) := by
  refine LCalls.intro 60 fi43 rfl Try.ntmps43 rfl (fun _ h => h.elim) (fun H hH w0 hw0 => ?_)
  refine g_seq (fun K0 hK0 => ?_)
  refine g_region ?_
  refine g_step rfl (s_val (v_assign rfl) rfl rfl ?_)
  refine g_nil ?_
  refine g_next hK0 ?_
  refine g_seq (fun K1 hK1 => ?_)
  refine g_region ?_
  refine g_step rfl (s_val (v_sub (b := (encR ⟨0, 4, 2, ⟨0, 0⟩, false, []⟩)) (v_build (vs := [(1, _), (2, _)]) (zs := [(.int .i64 0), (.int .i64 0), (.int .i64 0), (.int .i64 0), (.int .i64 0), (.bool false), .nil0]) (cells := [_, _, _, _, _, _, _]) ty62 pl62 rfl rfl rfl) (ASub.of_wk rfl)) rfl rfl ?_)
  refine g_step rfl (s_val (v_sub (b := (encR ⟨0, 5, 0, ⟨0, 0⟩, false, []⟩)) (v_build (vs := [(1, _)]) (zs := [(.int .i64 0), (.int .i64 0), (.int .i64 0), (.int .i64 0), (.int .i64 0), (.bool false), .nil0]) (cells := [_, _, _, _, _, _, _]) ty62 pl62 rfl rfl rfl) (ASub.of_wk rfl)) rfl rfl ?_)
  refine g_step rfl (s_callp rfl rfl rfl (join_ok ⟨0, 4, 2, ⟨0, 0⟩, false, []⟩ ⟨0, 5, 0, ⟨0, 0⟩, false, []⟩ _ ⟨by simp, by simp [bsize]⟩ ⟨by simp, by simp [bsize]⟩) ?_)
  rintro _ rfl
  refine g_step rfl (s_val (v_move rfl) rfl rfl ?_)
  refine g_step rfl (s_val (v_extract rfl rfl) rfl rfl ?_)
  refine g_step rfl (s_val (v_extract rfl rfl) rfl rfl ?_)
  refine g_step rfl (s_alloc (av := (.agg [(.int .i64 0), (.int .i64 0), (.int .i64 0), (.int .i64 0), (.int .i64 0), (.bool false), .nil0])) ty62 rfl rfl rfl rfl ?_)
  refine g_step rfl (s_store_all ty62 rfl rfl rfl rfl rfl rfl ?_)
  refine g_step rfl (s_val (v_assign rfl) rfl rfl ?_)
  refine g_nil ?_
  refine g_next hK1 ?_
  refine g_seq (fun K2 hK2 => ?_)
  refine g_region ?_
  refine g_step rfl (s_val (v_sub (b := (encR ⟨0, 4, 2, ⟨0, 0⟩, false, []⟩)) (v_build (vs := [(1, _), (2, _)]) (zs := [(.int .i64 0), (.int .i64 0), (.int .i64 0), (.int .i64 0), (.int .i64 0), (.bool false), .nil0]) (cells := [_, _, _, _, _, _, _]) ty62 pl62 rfl rfl rfl) (ASub.of_wk rfl)) rfl rfl ?_)
  refine g_step rfl (s_val (v_sub (b := (encR ⟨0, 4, 0, ⟨0, 0⟩, false, []⟩)) (v_build (vs := [(1, _)]) (zs := [(.int .i64 0), (.int .i64 0), (.int .i64 0), (.int .i64 0), (.int .i64 0), (.bool false), .nil0]) (cells := [_, _, _, _, _, _, _]) ty62 pl62 rfl rfl rfl) (ASub.of_wk rfl)) rfl rfl ?_)
  refine g_step rfl (s_callp rfl rfl rfl (join_ok ⟨0, 4, 2, ⟨0, 0⟩, false, []⟩ ⟨0, 4, 0, ⟨0, 0⟩, false, []⟩ _ ⟨by simp, by simp [bsize]⟩ ⟨by simp, by simp [bsize]⟩) ?_)
  rintro _ rfl
  refine g_step rfl (s_val (v_move rfl) rfl rfl ?_)
  refine g_step rfl (s_val (v_extract rfl rfl) rfl rfl ?_)
  refine g_step rfl (s_val (v_extract rfl rfl) rfl rfl ?_)
  refine g_step rfl (s_alloc (av := (.agg [(.int .i64 0), (.int .i64 0), (.int .i64 0), (.int .i64 0), (.int .i64 0), (.bool false), .nil0])) ty62 rfl rfl rfl rfl ?_)
  refine g_step rfl (s_store_all ty62 rfl rfl rfl rfl rfl rfl ?_)
  refine g_step rfl (s_val (v_assign rfl) rfl rfl ?_)
  refine g_nil ?_
  refine g_next hK2 ?_
  refine g_seq (fun K3 hK3 => ?_)
  refine g_region ?_
  refine g_step rfl (s_val (v_sub (b := (encR ⟨0, 4, 0, ⟨0, 0⟩, true, []⟩)) (v_build (vs := [(1, _), (4, _)]) (zs := [(.int .i64 0), (.int .i64 0), (.int .i64 0), (.int .i64 0), (.int .i64 0), (.bool false), .nil0]) (cells := [_, _, _, _, _, _, _]) ty62 pl62 rfl rfl rfl) (ASub.of_wk rfl)) rfl rfl ?_)
  refine g_step rfl (s_val (v_sub (b := (encFd ⟨40, []⟩)) (v_build (vs := [(0, _)]) (zs := [(.int .i64 0), .nil0]) (cells := [_, _]) ty93 pl93 rfl rfl rfl) (ASub.of_wk rfl)) rfl rfl ?_)
  refine g_step rfl (s_lit ty60 ty93 rfl rfl rfl rfl rfl rfl rfl ?_)
  refine g_step rfl (s_val (v_sub (b := (encR ⟨0, 4, 0, ⟨0, 0⟩, false, [⟨40, []⟩]⟩)) (v_build (vs := [(1, _), (5, _)]) (zs := [(.int .i64 0), (.int .i64 0), (.int .i64 0), (.int .i64 0), (.int .i64 0), (.bool false), .nil0]) (cells := [_, _, _, _, _, _, _]) ty62 pl62 rfl rfl rfl) (ASub.of_wk rfl)) rfl rfl ?_)
  refine g_step rfl (s_callp rfl rfl rfl (join_ok ⟨0, 4, 0, ⟨0, 0⟩, true, []⟩ ⟨0, 4, 0, ⟨0, 0⟩, false, [⟨40, []⟩]⟩ _ ⟨by simp, by simp [bsize]⟩ ⟨by simp, by simp [bsize]⟩) ?_)
  rintro _ rfl
  refine g_step rfl (s_val (v_move rfl) rfl rfl ?_)
  refine g_step rfl (s_val (v_extract rfl rfl) rfl rfl ?_)
  refine g_step rfl (s_val (v_extract rfl rfl) rfl rfl ?_)
  refine g_step rfl (s_alloc (av := (.agg [(.int .i64 0), (.int .i64 0), (.int .i64 0), (.int .i64 0), (.int .i64 0), (.bool false), .nil0])) ty62 rfl rfl rfl rfl ?_)
  refine g_step rfl (s_store_all ty62 rfl rfl rfl rfl rfl rfl ?_)
  refine g_step rfl (s_val (v_assign rfl) rfl rfl ?_)
  refine g_nil ?_
  refine g_next hK3 ?_
  refine g_seq (fun K4 hK4 => ?_)
  refine g_region ?_
  refine g_step rfl (s_val (v_move rfl) rfl rfl ?_)
  refine g_step rfl (s_val (v_move rfl) rfl rfl ?_)
  refine g_split 28 rfl (fun hg28 => ?_) (fun hg28 => ?_)
  · try simp only [decide_eq_true_eq, decide_eq_false_iff_not, Bool.not_eq_true', Bool.not_eq_false', Bool.not_eq_eq_eq_not, Bool.not_true, Bool.not_false, Bool.and_eq_true, Bool.or_eq_true, Bool.or_eq_false_iff, beq_iff_eq, beq_eq_false_iff_ne, ne_eq, Int.not_lt, Int.not_le, Decidable.not_not] at hg28
    refine g_step_yes (j := 1) (t := 28) rfl rfl rfl rfl (s_fieldAddr ty62 fo62_1 ty3 rfl rfl ?_)
    refine g_step_yes (j := 1) (t := 28) rfl rfl rfl rfl (s_val (v_loadl ty3 rfl rfl rfl rfl) rfl rfl ?_)
    refine g_step_yes (j := 1) (t := 28) rfl rfl rfl rfl (s_val (v_eql rfl rfl) rfl rfl ?_)
    refine g_step rfl (s_val (v_pick_t rfl rfl) rfl rfl ?_)
    refine g_step rfl (s_val (v_move rfl) rfl rfl ?_)
    refine g_split 33 rfl (fun hg33 => ?_) (fun hg33 => ?_)
    · try simp only [decide_eq_true_eq, decide_eq_false_iff_not, Bool.not_eq_true', Bool.not_eq_false', Bool.not_eq_eq_eq_not, Bool.not_true, Bool.not_false, Bool.and_eq_true, Bool.or_eq_true, Bool.or_eq_false_iff, beq_iff_eq, beq_eq_false_iff_ne, ne_eq, Int.not_lt, Int.not_le, Decidable.not_not] at hg33
      refine g_step_yes (j := 6) (t := 33) rfl rfl rfl rfl (s_fieldAddr ty62 fo62_2 ty3 rfl rfl ?_)
      refine g_step_yes (j := 6) (t := 33) rfl rfl rfl rfl (s_val (v_loadl ty3 rfl rfl rfl rfl) rfl rfl ?_)
      refine g_step_yes (j := 6) (t := 33) rfl rfl rfl rfl (s_val (v_eql rfl rfl) rfl rfl ?_)
      refine g_step rfl (s_val (v_pick_t rfl rfl) rfl rfl ?_)
      refine g_step rfl (s_val (v_move rfl) rfl rfl ?_)
      refine g_split 38 rfl (fun hg38 => ?_) (fun hg38 => ?_)
      · try simp only [decide_eq_true_eq, decide_eq_false_iff_not, Bool.not_eq_true', Bool.not_eq_false', Bool.not_eq_eq_eq_not, Bool.not_true, Bool.not_false, Bool.and_eq_true, Bool.or_eq_true, Bool.or_eq_false_iff, beq_iff_eq, beq_eq_false_iff_ne, ne_eq, Int.not_lt, Int.not_le, Decidable.not_not] at hg38
        refine g_step_yes (j := 11) (t := 38) rfl rfl rfl rfl (s_val (v_move rfl) rfl rfl ?_)
        refine g_step rfl (s_val (v_pick_t rfl rfl) rfl rfl ?_)
        refine g_step rfl (s_val (v_move rfl) rfl rfl ?_)
        refine g_split 41 rfl (fun hg41 => ?_) (fun hg41 => ?_)
        · try simp only [decide_eq_true_eq, decide_eq_false_iff_not, Bool.not_eq_true', Bool.not_eq_false', Bool.not_eq_eq_eq_not, Bool.not_true, Bool.not_false, Bool.and_eq_true, Bool.or_eq_true, Bool.or_eq_false_iff, beq_iff_eq, beq_eq_false_iff_ne, ne_eq, Int.not_lt, Int.not_le, Decidable.not_not] at hg41
          refine g_step_yes (j := 14) (t := 41) rfl rfl rfl rfl (s_fieldAddr ty62 fo62_2 ty3 rfl rfl ?_)
          refine g_step_yes (j := 14) (t := 41) rfl rfl rfl rfl (s_val (v_loadl ty3 rfl rfl rfl rfl) rfl rfl ?_)
          refine g_step_yes (j := 14) (t := 41) rfl rfl rfl rfl (s_val (v_eql rfl rfl) rfl rfl ?_)
          refine g_step rfl (s_val (v_pick_t rfl rfl) rfl rfl ?_)
          refine g_step rfl (s_val (v_move rfl) rfl rfl ?_)
          refine g_split 46 rfl (fun hg46 => ?_) (fun hg46 => ?_)
          · try simp only [decide_eq_true_eq, decide_eq_false_iff_not, Bool.not_eq_true', Bool.not_eq_false', Bool.not_eq_eq_eq_not, Bool.not_true, Bool.not_false, Bool.and_eq_true, Bool.or_eq_true, Bool.or_eq_false_iff, beq_iff_eq, beq_eq_false_iff_ne, ne_eq, Int.not_lt, Int.not_le, Decidable.not_not] at hg46
            refine g_step_yes (j := 19) (t := 46) rfl rfl rfl rfl (s_val (v_move rfl) rfl rfl ?_)
            refine g_step rfl (s_val (v_pick_t rfl rfl) rfl rfl ?_)
            refine g_step rfl (s_val (v_move rfl) rfl rfl ?_)
            refine g_split 49 rfl (fun hg49 => ?_) (fun hg49 => ?_)
            · try simp only [decide_eq_true_eq, decide_eq_false_iff_not, Bool.not_eq_true', Bool.not_eq_false', Bool.not_eq_eq_eq_not, Bool.not_true, Bool.not_false, Bool.and_eq_true, Bool.or_eq_true, Bool.or_eq_false_iff, beq_iff_eq, beq_eq_false_iff_ne, ne_eq, Int.not_lt, Int.not_le, Decidable.not_not] at hg49
              refine g_step_yes (j := 22) (t := 49) rfl rfl rfl rfl (s_fieldAddr ty62 fo62_5 ty60 rfl rfl ?_)
              refine g_step_yes (j := 22) (t := 49) rfl rfl rfl rfl (s_val (v_loadl ty60 rfl rfl rfl rfl) rfl rfl ?_)
              refine g_step_yes (j := 22) (t := 49) rfl rfl rfl rfl (s_val (v_len ty60 rfl (by first | rfl | assumption) (by first | exact List.length_map .. | rfl)) rfl rfl ?_)
              refine g_step_yes (j := 22) (t := 49) rfl rfl rfl rfl (s_val (v_eql rfl rfl) rfl rfl ?_)
              refine g_step rfl (s_val (v_pick_t rfl rfl) rfl rfl ?_)
              refine g_step rfl (s_val (v_move rfl) rfl rfl ?_)
              refine g_split 55 rfl (fun hg55 => ?_) (fun hg55 => ?_)
              · try simp only [decide_eq_true_eq, decide_eq_false_iff_not, Bool.not_eq_true', Bool.not_eq_false', Bool.not_eq_eq_eq_not, Bool.not_true, Bool.not_false, Bool.and_eq_true, Bool.or_eq_true, Bool.or_eq_false_iff, beq_iff_eq, beq_eq_false_iff_ne, ne_eq, Int.not_lt, Int.not_le, Decidable.not_not] at hg55
                refine g_step_yes (j := 28) (t := 55) rfl rfl rfl rfl (s_fieldAddr ty62 fo62_4 ty4 rfl rfl ?_)
                refine g_step_yes (j := 28) (t := 55) rfl rfl rfl rfl (s_val (v_loadl ty4 rfl rfl rfl rfl) rfl rfl ?_)
                refine g_step_yes (j := 28) (t := 55) rfl rfl rfl rfl (s_val (v_not rfl) rfl rfl ?_)
                refine g_step rfl (s_val (v_pick_t rfl rfl) rfl rfl ?_)
                refine g_step rfl (s_val (v_assign rfl) rfl rfl ?_)
                refine g_nil ?_
                refine g_next hK4 ?_
                refine g_ret ?_
                refine g_end1 (.inl rfl) Try.results43 (.tmp rfl) [] (ASub.refl _) (AHeap.sub_refl _) (fun p hp => by cases hp) ⟨rfl, ?_⟩
                rfl
              · exfalso; (try simp only [decide_eq_true_eq, decide_eq_false_iff_not, Bool.not_eq_true', Bool.not_eq_false', Bool.not_eq_eq_eq_not, Bool.not_true, Bool.not_false, Bool.and_eq_true, Bool.or_eq_true, Bool.or_eq_false_iff, beq_iff_eq, beq_eq_false_iff_ne, ne_eq, Int.not_lt, Int.not_le, Decidable.not_not] at hg55); revert hg55; decide
            · exfalso; (try simp only [decide_eq_true_eq, decide_eq_false_iff_not, Bool.not_eq_true', Bool.not_eq_false', Bool.not_eq_eq_eq_not, Bool.not_true, Bool.not_false, Bool.and_eq_true, Bool.or_eq_true, Bool.or_eq_false_iff, beq_iff_eq, beq_eq_false_iff_ne, ne_eq, Int.not_lt, Int.not_le, Decidable.not_not] at hg49); revert hg49; decide
          · exfalso; (try simp only [decide_eq_true_eq, decide_eq_false_iff_not, Bool.not_eq_true', Bool.not_eq_false', Bool.not_eq_eq_eq_not, Bool.not_true, Bool.not_false, Bool.and_eq_true, Bool.or_eq_true, Bool.or_eq_false_iff, beq_iff_eq, beq_eq_false_iff_ne, ne_eq, Int.not_lt, Int.not_le, Decidable.not_not] at hg46); revert hg46; decide
        · exfalso; (try simp only [decide_eq_true_eq, decide_eq_false_iff_not, Bool.not_eq_true', Bool.not_eq_false', Bool.not_eq_eq_eq_not, Bool.not_true, Bool.not_false, Bool.and_eq_true, Bool.or_eq_true, Bool.or_eq_false_iff, beq_iff_eq, beq_eq_false_iff_ne, ne_eq, Int.not_lt, Int.not_le, Decidable.not_not] at hg41); revert hg41; decide
      · exfalso; (try simp only [decide_eq_true_eq, decide_eq_false_iff_not, Bool.not_eq_true', Bool.not_eq_false', Bool.not_eq_eq_eq_not, Bool.not_true, Bool.not_false, Bool.and_eq_true, Bool.or_eq_true, Bool.or_eq_false_iff, beq_iff_eq, beq_eq_false_iff_ne, ne_eq, Int.not_lt, Int.not_le, Decidable.not_not] at hg38); revert hg38; decide
    · exfalso; (try simp only [decide_eq_true_eq, decide_eq_false_iff_not, Bool.not_eq_true', Bool.not_eq_false', Bool.not_eq_eq_eq_not, Bool.not_true, Bool.not_false, Bool.and_eq_true, Bool.or_eq_true, Bool.or_eq_false_iff, beq_iff_eq, beq_eq_false_iff_ne, ne_eq, Int.not_lt, Int.not_le, Decidable.not_not] at hg33); revert hg33; decide
  · exfalso; (try simp only [decide_eq_true_eq, decide_eq_false_iff_not, Bool.not_eq_true', Bool.not_eq_false', Bool.not_eq_eq_eq_not, Bool.not_true, Bool.not_false, Bool.and_eq_true, Bool.or_eq_true, Bool.or_eq_false_iff, beq_iff_eq, beq_eq_false_iff_ne, ne_eq, Int.not_lt, Int.not_le, Decidable.not_not] at hg28); revert hg28; decide

theorem latticeJoins_ok (a b : Rc) (hha : Held a.bag) (hhb : Held b.bag) (G : AHeap) : PCalls Try.prog 11 [encR a, encR b] G (fun v => v = .bool true) := by
  refine LCalls.intro 62 fi11 rfl Try.ntmps11 rfl (fun _ h => h.elim) (fun H hH w0 hw0 => ?_)
  refine g_seq (fun K0 hK0 => ?_)
  refine g_region ?_
  refine g_step rfl (s_box rfl rfl rfl rfl ?_)
  refine g_step rfl (s_box rfl rfl rfl rfl ?_)
  refine g_step rfl (s_val (v_assign rfl) rfl rfl ?_)
  refine g_nil ?_
  refine g_next hK0 ?_
  refine g_seq (fun K1 hK1 => ?_)
  refine g_seq (fun K2 hK2 => ?_)
  refine g_region ?_
  refine g_step rfl (s_val (by first | exact v_loadl_all ty62 rfl rfl rfl rfl rfl | exact v_loadl_part (cs := [_, _, _, _, _, _, _]) ty62 rfl rfl rfl rfl rfl rfl) rfl rfl ?_)
  refine g_step rfl (s_val (by first | exact v_loadl_all ty62 rfl rfl rfl rfl rfl | exact v_loadl_part (cs := [_, _, _, _, _, _, _]) ty62 rfl rfl rfl rfl rfl rfl) rfl rfl ?_)
  refine g_step rfl (s_lit ty59 ty62 rfl rfl rfl rfl rfl rfl rfl ?_)
  refine g_step rfl (s_callp rfl rfl rfl (fewL_ok [a, b] _ _ rfl (by simp [hha, hhb]) (by simp)) ?_)
  rintro _ rfl
  refine g_step rfl (s_val (v_not rfl) rfl rfl ?_)
  refine g_nil ?_
  refine g_next hK2 ?_
  refine g_cond rfl (fun hc12 => ?_) (fun hc12 => ?_)
  · try simp only [decide_eq_true_eq, decide_eq_false_iff_not, Bool.not_eq_true', Bool.not_eq_false', Bool.not_eq_eq_eq_not, Bool.not_true, Bool.not_false, Bool.and_eq_true, Bool.or_eq_true, Bool.or_eq_false_iff, beq_iff_eq, beq_eq_false_iff_ne, ne_eq, Int.not_lt, Int.not_le, Decidable.not_not] at hc12
    refine g_seq (fun K3 hK3 => ?_)
    refine g_region ?_
    refine g_step rfl (s_callp rfl rfl rfl (awake09_ok _) ?_)
    rintro _ rfl
    refine g_step rfl (s_val (v_assign rfl) rfl rfl ?_)
    refine g_nil ?_
    refine g_next hK3 ?_
    refine g_ret ?_
    refine g_then_ret ?_
    refine g_end1 (.inl rfl) Try.results11 (.tmp rfl) [] (ASub.refl _) (AHeap.sub_refl _) (fun p hp => by cases hp) ⟨rfl, ?_⟩
    rfl
  · try simp only [decide_eq_true_eq, decide_eq_false_iff_not, Bool.not_eq_true', Bool.not_eq_false', Bool.not_eq_eq_eq_not, Bool.not_true, Bool.not_false, Bool.and_eq_true, Bool.or_eq_true, Bool.or_eq_false_iff, beq_iff_eq, beq_eq_false_iff_ne, ne_eq, Int.not_lt, Int.not_le, Decidable.not_not] at hc12
    have hf : few a.bag = true ∧ few b.bag = true := by simpa [fewL] using hc12
    have hsa := (few_small hf.1).1
    have hsb := (few_small hf.2).1
    have hsj : Small (jnAll a b).bag := by unfold jnAll jn; split <;> (try split) <;> (try split) <;> (try split) <;> first | exact hsa | exact hsb | exact ⟨by simp [rzero], by simp [rzero, bsize]⟩
    refine g_skip ?_
    refine g_next hK1 ?_
    refine g_seq (fun K4 hK4 => ?_)
    refine g_region ?_
    refine g_step rfl (s_val (by first | exact v_loadl_all ty62 rfl rfl rfl rfl rfl | exact v_loadl_part (cs := [_, _, _, _, _, _, _]) ty62 rfl rfl rfl rfl rfl rfl) rfl rfl ?_)
    refine g_step rfl (s_val (by first | exact v_loadl_all ty62 rfl rfl rfl rfl rfl | exact v_loadl_part (cs := [_, _, _, _, _, _, _]) ty62 rfl rfl rfl rfl rfl rfl) rfl rfl ?_)
    refine g_step rfl (s_callp rfl rfl rfl (join_ok a b _ hsa hsb) ?_)
    rintro _ rfl
    refine g_step rfl (s_val (v_move rfl) rfl rfl ?_)
    refine g_step rfl (s_val (v_extract rfl rfl) rfl rfl ?_)
    refine g_step rfl (s_val (v_extract rfl rfl) rfl rfl ?_)
    refine g_step rfl (s_alloc (av := (.agg [(.int .i64 0), (.int .i64 0), (.int .i64 0), (.int .i64 0), (.int .i64 0), (.bool false), .nil0])) ty62 rfl rfl rfl rfl ?_)
    refine g_step rfl (s_store_all ty62 rfl rfl rfl rfl rfl rfl ?_)
    refine g_step rfl (s_val (v_assign rfl) rfl rfl ?_)
    refine g_nil ?_
    refine g_next hK4 ?_
    refine g_seq (fun K5 hK5 => ?_)
    refine g_seq (fun K6 hK6 => ?_)
    refine g_region ?_
    refine g_step rfl (s_fieldAddr ty62 fo62_0 ty3 rfl rfl ?_)
    refine g_step rfl (s_val (v_loadl ty3 rfl rfl rfl rfl) rfl rfl ?_)
    refine g_step rfl (s_fieldAddr ty62 fo62_0 ty3 rfl rfl ?_)
    refine g_step rfl (s_val (v_loadl ty3 rfl rfl rfl rfl) rfl rfl ?_)
    refine g_step rfl (s_val (v_neq rfl rfl) rfl rfl ?_)
    refine g_nil ?_
    refine g_next hK6 ?_
    refine g_cond rfl (fun hc24 => ?_) (fun hc24 => ?_)
    · try simp only [decide_eq_true_eq, decide_eq_false_iff_not, Bool.not_eq_true', Bool.not_eq_false', Bool.not_eq_eq_eq_not, Bool.not_true, Bool.not_false, Bool.and_eq_true, Bool.or_eq_true, Bool.or_eq_false_iff, beq_iff_eq, beq_eq_false_iff_ne, ne_eq, Int.not_lt, Int.not_le, Decidable.not_not] at hc24
      have hja : jnAll a b = rzero := if_neg hc24
      rw [hja] at hsj
      refine g_seq (fun K7 hK7 => ?_)
      refine g_region ?_
      refine g_step rfl (s_val (v_move rfl) rfl rfl ?_)
      refine g_step rfl (s_val (v_not rfl) rfl rfl ?_)
      refine g_step rfl (s_val (v_move rfl) rfl rfl ?_)
      refine g_split 27 rfl (fun hg27 => ?_) (fun hg27 => ?_)
      · try simp only [decide_eq_true_eq, decide_eq_false_iff_not, Bool.not_eq_true', Bool.not_eq_false', Bool.not_eq_eq_eq_not, Bool.not_true, Bool.not_false, Bool.and_eq_true, Bool.or_eq_true, Bool.or_eq_false_iff, beq_iff_eq, beq_eq_false_iff_ne, ne_eq, Int.not_lt, Int.not_le, Decidable.not_not] at hg27
        refine g_step_yes (j := 2) (t := 27) rfl rfl rfl rfl (s_val (by first | exact v_loadl_all ty62 rfl rfl rfl rfl rfl | exact v_loadl_part (cs := [_, _, _, _, _, _, _]) ty62 rfl rfl rfl rfl rfl rfl) rfl rfl ?_)
        refine g_step_yes (j := 2) (t := 27) rfl rfl rfl rfl (s_val (v_sub (b := (encR rzero)) (v_build (vs := []) (zs := [(.int .i64 0), (.int .i64 0), (.int .i64 0), (.int .i64 0), (.int .i64 0), (.bool false), .nil0]) (cells := [_, _, _, _, _, _, _]) ty62 pl62 rfl rfl rfl) (ASub.of_wk rfl)) rfl rfl ?_)
        refine g_step_yes (j := 2) (t := 27) rfl rfl rfl rfl (s_callp rfl rfl rfl (alike_ok (jnAll a b) rzero _ (by rw [hja]; exact hsj)) ?_)
        rintro _ rfl
        refine g_step rfl (s_val (v_pick_t rfl rfl) rfl rfl ?_)
        refine g_step rfl (s_val (v_move rfl) rfl rfl ?_)
        refine g_split 32 rfl (fun hg32 => ?_) (fun hg32 => ?_)
        · try simp only [decide_eq_true_eq, decide_eq_false_iff_not, Bool.not_eq_true', Bool.not_eq_false', Bool.not_eq_eq_eq_not, Bool.not_true, Bool.not_false, Bool.and_eq_true, Bool.or_eq_true, Bool.or_eq_false_iff, beq_iff_eq, beq_eq_false_iff_ne, ne_eq, Int.not_lt, Int.not_le, Decidable.not_not] at hg32
          refine g_step_yes (j := 7) (t := 32) rfl rfl rfl rfl (s_val (by first | exact v_loadl_all ty62 rfl rfl rfl rfl rfl | exact v_loadl_part (cs := [_, _, _, _, _, _, _]) ty62 rfl rfl rfl rfl rfl rfl) rfl rfl ?_)
          refine g_step_yes (j := 7) (t := 32) rfl rfl rfl rfl (s_val (by first | exact v_loadl_all ty62 rfl rfl rfl rfl rfl | exact v_loadl_part (cs := [_, _, _, _, _, _, _]) ty62 rfl rfl rfl rfl rfl rfl) rfl rfl ?_)
          refine g_step_yes (j := 7) (t := 32) rfl rfl rfl rfl (s_callp rfl rfl rfl (below_ok a b _ hsa hsb (by rw [hja]; exact hsj)) ?_)
          rintro _ rfl
          refine g_step_yes (j := 7) (t := 32) rfl rfl rfl rfl (s_val (v_not rfl) rfl rfl ?_)
          refine g_step rfl (s_val (v_pick_t rfl rfl) rfl rfl ?_)
          refine g_step rfl (s_val (v_move rfl) rfl rfl ?_)
          refine g_split 38 rfl (fun hg38 => ?_) (fun hg38 => ?_)
          · try simp only [decide_eq_true_eq, decide_eq_false_iff_not, Bool.not_eq_true', Bool.not_eq_false', Bool.not_eq_eq_eq_not, Bool.not_true, Bool.not_false, Bool.and_eq_true, Bool.or_eq_true, Bool.or_eq_false_iff, beq_iff_eq, beq_eq_false_iff_ne, ne_eq, Int.not_lt, Int.not_le, Decidable.not_not] at hg38
            refine g_step_yes (j := 13) (t := 38) rfl rfl rfl rfl (s_callp rfl rfl rfl (awake09_ok _) ?_)
            rintro _ rfl
            refine g_step rfl (s_val (v_pick_t rfl rfl) rfl rfl ?_)
            refine g_step rfl (s_val (v_assign rfl) rfl rfl ?_)
            refine g_nil ?_
            refine g_next hK7 ?_
            refine g_ret ?_
            refine g_then_ret ?_
            refine g_end1 (.inl rfl) Try.results11 (.tmp rfl) [] (ASub.refl _) (AHeap.sub_refl _) (fun p hp => by cases hp) ⟨rfl, ?_⟩
            rfl
          · exfalso; (try simp only [decide_eq_true_eq, decide_eq_false_iff_not, Bool.not_eq_true', Bool.not_eq_false', Bool.not_eq_eq_eq_not, Bool.not_true, Bool.not_false, Bool.and_eq_true, Bool.or_eq_true, Bool.or_eq_false_iff, beq_iff_eq, beq_eq_false_iff_ne, ne_eq, Int.not_lt, Int.not_le, Decidable.not_not] at hg38); simp_all
        · exfalso; (try simp only [decide_eq_true_eq, decide_eq_false_iff_not, Bool.not_eq_true', Bool.not_eq_false', Bool.not_eq_eq_eq_not, Bool.not_true, Bool.not_false, Bool.and_eq_true, Bool.or_eq_true, Bool.or_eq_false_iff, beq_iff_eq, beq_eq_false_iff_ne, ne_eq, Int.not_lt, Int.not_le, Decidable.not_not] at hg32); simp_all
      · exfalso; (try simp only [decide_eq_true_eq, decide_eq_false_iff_not, Bool.not_eq_true', Bool.not_eq_false', Bool.not_eq_eq_eq_not, Bool.not_true, Bool.not_false, Bool.and_eq_true, Bool.or_eq_true, Bool.or_eq_false_iff, beq_iff_eq, beq_eq_false_iff_ne, ne_eq, Int.not_lt, Int.not_le, Decidable.not_not] at hg27); simp_all
    · try simp only [decide_eq_true_eq, decide_eq_false_iff_not, Bool.not_eq_true', Bool.not_eq_false', Bool.not_eq_eq_eq_not, Bool.not_true, Bool.not_false, Bool.and_eq_true, Bool.or_eq_true, Bool.or_eq_false_iff, beq_iff_eq, beq_eq_false_iff_ne, ne_eq, Int.not_lt, Int.not_le, Decidable.not_not] at hc24
      have hja : jnAll a b = jn a b := if_pos hc24
      refine g_skip ?_
      refine g_next hK5 ?_
      refine g_seq (fun K8 hK8 => ?_)
      refine g_region ?_
      refine g_step rfl (s_val (by first | exact v_loadl_all ty62 rfl rfl rfl rfl rfl | exact v_loadl_part (cs := [_, _, _, _, _, _, _]) ty62 rfl rfl rfl rfl rfl rfl) rfl rfl ?_)
      refine g_step rfl (s_val (by first | exact v_loadl_all ty62 rfl rfl rfl rfl rfl | exact v_loadl_part (cs := [_, _, _, _, _, _, _]) ty62 rfl rfl rfl rfl rfl rfl) rfl rfl ?_)
      refine g_step rfl (s_callp rfl rfl rfl (join09_ok a b _ hsa hsb) ?_)
      rintro _ rfl
      refine g_step rfl (s_alloc (av := (.agg [(.int .i64 0), (.int .i64 0), (.int .i64 0), (.int .i64 0), (.int .i64 0), (.bool false), .nil0])) ty62 rfl rfl rfl rfl ?_)
      refine g_step rfl (s_store_all ty62 rfl rfl rfl rfl rfl rfl ?_)
      refine g_nil ?_
      refine g_next hK8 ?_
      refine g_seq (fun K9 hK9 => ?_)
      refine g_draw (n := 19) (fun j => !([] : List Nat).contains j) rfl rfl ?_
      refine m_take 0 false rfl rfl (by kernel_rfl) (by kernel_rfl) (by kernel_rfl) (fun _ _ _ _ h => h) (v_move rfl) rfl rfl ?_
      refine m_take 1 false rfl rfl (by kernel_rfl) (by kernel_rfl) (by kernel_rfl) (fun _ _ _ _ h => h) (v_move rfl) rfl rfl ?_
      refine m_split 45 rfl (fun hg45 => ?_) (fun hg45 => ?_)
      · try simp only [decide_eq_true_eq, decide_eq_false_iff_not, Bool.not_eq_true', Bool.not_eq_false', Bool.not_eq_eq_eq_not, Bool.not_true, Bool.not_false, Bool.and_eq_true, Bool.or_eq_true, Bool.or_eq_false_iff, beq_iff_eq, beq_eq_false_iff_ne, ne_eq, Int.not_lt, Int.not_le, Decidable.not_not] at hg45
        refine m_take_yes (j := 1) (t := 45) 2 true rfl rfl rfl rfl rfl (by kernel_rfl) (by kernel_rfl) (by kernel_rfl) (fun _ _ _ _ h => h) (by first | exact v_loadl_all ty62 rfl rfl rfl rfl rfl | exact v_loadl_part (cs := [_, _, _, _, _, _, _]) ty62 rfl rfl rfl rfl rfl rfl) rfl rfl ?_
        refine m_take_yes (j := 1) (t := 45) 3 true rfl rfl rfl rfl rfl (by kernel_rfl) (by kernel_rfl) (by kernel_rfl) (fun _ _ _ _ h => h) (by first | exact v_loadl_all ty62 rfl rfl rfl rfl rfl | exact v_loadl_part (cs := [_, _, _, _, _, _, _]) ty62 rfl rfl rfl rfl rfl rfl) rfl rfl ?_
        refine m_one_yes (j := 1) (t := 45) 4 (by kernel_rfl) rfl rfl rfl rfl rfl ?_
        refine sm_callp rfl rfl rfl (alike_ok (jnAll a b) (jn a b) _ hsj) ?_
        rintro _ rfl
        refine m_take 5 false rfl rfl (by kernel_rfl) (by kernel_rfl) (by kernel_rfl) (fun _ _ _ _ h => h) (v_pick_t rfl rfl) rfl rfl ?_
        refine m_take 6 false rfl rfl (by kernel_rfl) (by kernel_rfl) (by kernel_rfl) (fun _ _ _ _ h => h) (v_move rfl) rfl rfl ?_
        refine m_split 50 rfl (fun hg50 => ?_) (fun hg50 => ?_)
        · try simp only [decide_eq_true_eq, decide_eq_false_iff_not, Bool.not_eq_true', Bool.not_eq_false', Bool.not_eq_eq_eq_not, Bool.not_true, Bool.not_false, Bool.and_eq_true, Bool.or_eq_true, Bool.or_eq_false_iff, beq_iff_eq, beq_eq_false_iff_ne, ne_eq, Int.not_lt, Int.not_le, Decidable.not_not] at hg50
          refine m_take_yes (j := 6) (t := 50) 7 true rfl rfl rfl rfl rfl (by kernel_rfl) (by kernel_rfl) (by kernel_rfl) (fun _ _ _ _ h => h) (by first | exact v_loadl_all ty62 rfl rfl rfl rfl rfl | exact v_loadl_part (cs := [_, _, _, _, _, _, _]) ty62 rfl rfl rfl rfl rfl rfl) rfl rfl ?_
          refine m_take_yes (j := 6) (t := 50) 8 true rfl rfl rfl rfl rfl (by kernel_rfl) (by kernel_rfl) (by kernel_rfl) (fun _ _ _ _ h => h) (by first | exact v_loadl_all ty62 rfl rfl rfl rfl rfl | exact v_loadl_part (cs := [_, _, _, _, _, _, _]) ty62 rfl rfl rfl rfl rfl rfl) rfl rfl ?_
          refine m_take_yes (j := 6) (t := 50) 10 true rfl rfl rfl rfl rfl (by kernel_rfl) (by kernel_rfl) (by kernel_rfl) (fun _ _ _ _ h => h) (by first | exact v_loadl_all ty62 rfl rfl rfl rfl rfl | exact v_loadl_part (cs := [_, _, _, _, _, _, _]) ty62 rfl rfl rfl rfl rfl rfl) rfl rfl ?_
          refine m_take_yes (j := 6) (t := 50) 11 true rfl rfl rfl rfl rfl (by kernel_rfl) (by kernel_rfl) (by kernel_rfl) (fun _ _ _ _ h => h) (by first | exact v_loadl_all ty62 rfl rfl rfl rfl rfl | exact v_loadl_part (cs := [_, _, _, _, _, _, _]) ty62 rfl rfl rfl rfl rfl rfl) rfl rfl ?_
          refine m_one_yes (j := 6) (t := 50) 9 (by kernel_rfl) rfl rfl rfl rfl rfl ?_
          refine sm_callp rfl rfl rfl (below_ok a b _ hsa hsb hsj) ?_
          rintro _ rfl
          refine m_one_yes (j := 6) (t := 50) 12 (by kernel_rfl) rfl rfl rfl rfl rfl ?_
          refine sm_callp rfl rfl rfl (alike_ok (jn a b) b _ (hja ▸ hsj)) ?_
          rintro _ rfl
          refine m_take_yes (j := 6) (t := 50) 13 false rfl rfl rfl rfl rfl (by kernel_rfl) (by kernel_rfl) (by kernel_rfl) (fun _ _ _ _ h => h) (v_bool_eql ty4 rfl rfl) rfl rfl ?_
          refine m_take 14 false rfl rfl (by kernel_rfl) (by kernel_rfl) (by kernel_rfl) (fun _ _ _ _ h => h) (v_pick_t rfl rfl) rfl rfl ?_
          refine m_take 15 false rfl rfl (by kernel_rfl) (by kernel_rfl) (by kernel_rfl) (fun _ _ _ _ h => h) (v_move rfl) rfl rfl ?_
          refine m_split 59 rfl (fun hg59 => ?_) (fun hg59 => ?_)
          · try simp only [decide_eq_true_eq, decide_eq_false_iff_not, Bool.not_eq_true', Bool.not_eq_false', Bool.not_eq_eq_eq_not, Bool.not_true, Bool.not_false, Bool.and_eq_true, Bool.or_eq_true, Bool.or_eq_false_iff, beq_iff_eq, beq_eq_false_iff_ne, ne_eq, Int.not_lt, Int.not_le, Decidable.not_not] at hg59
            refine m_one_yes (j := 15) (t := 59) 16 (by kernel_rfl) rfl rfl rfl rfl rfl ?_
            refine sm_callp rfl rfl rfl (awake09_ok _) ?_
            rintro _ rfl
            refine m_take 17 false rfl rfl (by kernel_rfl) (by kernel_rfl) (by kernel_rfl) (fun _ _ _ _ h => h) (v_pick_t rfl rfl) rfl rfl ?_
            refine m_take 18 false rfl rfl (by kernel_rfl) (by kernel_rfl) (by kernel_rfl) (fun _ _ _ _ h => h) (v_assign rfl) rfl rfl ?_
            refine m_done (by kernel_rfl) ?_
            refine g_next hK9 ?_
            refine g_ret ?_
            refine g_end1 (.inl rfl) Try.results11 (.tmp rfl) [] (ASub.refl _) (AHeap.sub_refl _) (fun p hp => by cases hp) ⟨rfl, ?_⟩
            rfl
          · exfalso; (try simp only [decide_eq_true_eq, decide_eq_false_iff_not, Bool.not_eq_true', Bool.not_eq_false', Bool.not_eq_eq_eq_not, Bool.not_true, Bool.not_false, Bool.and_eq_true, Bool.or_eq_true, Bool.or_eq_false_iff, beq_iff_eq, beq_eq_false_iff_ne, ne_eq, Int.not_lt, Int.not_le, Decidable.not_not] at hg59); simp_all
        · exfalso; (try simp only [decide_eq_true_eq, decide_eq_false_iff_not, Bool.not_eq_true', Bool.not_eq_false', Bool.not_eq_eq_eq_not, Bool.not_true, Bool.not_false, Bool.and_eq_true, Bool.or_eq_true, Bool.or_eq_false_iff, beq_iff_eq, beq_eq_false_iff_ne, ne_eq, Int.not_lt, Int.not_le, Decidable.not_not] at hg50); simp_all
      · exfalso; (try simp only [decide_eq_true_eq, decide_eq_false_iff_not, Bool.not_eq_true', Bool.not_eq_false', Bool.not_eq_eq_eq_not, Bool.not_true, Bool.not_false, Bool.and_eq_true, Bool.or_eq_true, Bool.or_eq_false_iff, beq_iff_eq, beq_eq_false_iff_ne, ne_eq, Int.not_lt, Int.not_le, Decidable.not_not] at hg45); simp_all

end Go.Proofs.Ytmnngdbcfdnefaa

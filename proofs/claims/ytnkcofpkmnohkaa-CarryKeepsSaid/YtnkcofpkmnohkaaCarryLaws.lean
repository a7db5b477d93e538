import Derived.Test.YtnkcofpkmnohkaaCarry
set_option maxHeartbeats 8000000
set_option linter.unusedSimpArgs false
set_option linter.unusedVariables false
set_option maxRecDepth 100000
namespace Go.Proofs.Ytnkcofpkmnohkaa
open Go Go.Proofs.Ytnkcofpkmnohkaa.AM
theorem awake18_ok (G : AHeap) : PCalls Try.prog 22 [] G (fun v => v = .bool true) := by
  refine LCalls.intro 64 fi22 rfl Try.ntmps22 rfl (fun _ h => h.elim) (fun H hH w0 hw0 => ?_)
  refine g_seq (fun K0 hK0 => ?_)
  refine g_region ?_
  refine g_step rfl (s_val (v_assign rfl) rfl rfl ?_)
  refine g_nil ?_
  refine g_next hK0 ?_
  refine g_seq (fun K1 hK1 => ?_)
  refine g_region ?_
  refine g_step rfl (s_val (v_build (vs := [(0, _), (1, _)]) (zs := [(.int .i64 0), (.int .i64 0)]) (cells := [_, _]) ty25 pl25 rfl rfl rfl) rfl rfl ?_)
  refine g_step rfl (s_lit ty75 ty5 rfl rfl rfl rfl rfl rfl rfl ?_)
  refine g_step rfl (s_val (v_sub (b := (encFd ⟨40, [1, 2, 3, 4]⟩)) (v_build (vs := [(0, _), (1, _)]) (zs := [(.int .i64 0), .nil0]) (cells := [_, _]) ty77 pl77 rfl rfl rfl) (ASub.of_wk rfl)) rfl rfl ?_)
  refine g_step rfl (s_lit ty26 ty77 rfl rfl rfl rfl rfl rfl rfl ?_)
  refine g_step rfl (s_val (v_sub (b := (encR ⟨1, 0, 0, ⟨1, 3⟩, false, [⟨40, [1, 2, 3, 4]⟩]⟩)) (v_build (vs := [(0, _), (3, _), (5, _)]) (zs := [(.int .i64 0), (.int .i64 0), (.int .i64 0), (.int .i64 0), (.int .i64 0), (.bool false), .nil0]) (cells := [_, _, _, _, _, _, _]) ty28 pl28 rfl rfl rfl) (ASub.of_wk rfl)) rfl rfl ?_)
  refine g_step rfl (s_alloc (av := (.agg [(.int .i64 0), (.int .i64 0), (.int .i64 0), (.int .i64 0), (.int .i64 0), (.bool false), .nil0])) ty28 rfl rfl rfl rfl ?_)
  refine g_step rfl (s_store_all ty28 rfl rfl rfl rfl rfl rfl ?_)
  refine g_nil ?_
  refine g_next hK1 ?_
  refine g_seq (fun K2 hK2 => ?_)
  refine g_region ?_
  refine g_step rfl (s_val (by first | exact v_loadl_all ty28 rfl rfl rfl rfl rfl | exact v_loadl_part (cs := [_, _, _, _, _, _, _]) ty28 rfl rfl rfl rfl rfl rfl) rfl rfl ?_)
  refine g_step rfl (s_lit ty41 ty3 rfl rfl rfl rfl rfl rfl rfl ?_)
  refine g_step rfl (s_callp rfl rfl rfl (path_ok ⟨1, 0, 0, ⟨1, 3⟩, false, [⟨40, [1, 2, 3, 4]⟩]⟩ [2, 3, 2] _ ⟨by simp, by simp [bsize]⟩ (by simp) _ rfl) ?_)
  rintro _ rfl
  refine g_step rfl (s_val (v_move rfl) rfl rfl ?_)
  refine g_step rfl (s_val (v_extract rfl rfl) rfl rfl ?_)
  refine g_step rfl (s_val (v_extract rfl rfl) rfl rfl ?_)
  refine g_step rfl (s_alloc (av := (.agg [(.int .i64 0), (.int .i64 0), (.int .i64 0), (.int .i64 0), (.int .i64 0), (.bool false), .nil0])) ty28 rfl rfl rfl rfl ?_)
  refine g_step rfl (s_store_all ty28 rfl rfl rfl rfl rfl rfl ?_)
  refine g_step rfl (s_val (v_assign rfl) rfl rfl ?_)
  refine g_nil ?_
  refine g_next hK2 ?_
  refine g_seq (fun K3 hK3 => ?_)
  refine g_region ?_
  refine g_step rfl (s_val (by first | exact v_loadl_all ty28 rfl rfl rfl rfl rfl | exact v_loadl_part (cs := [_, _, _, _, _, _, _]) ty28 rfl rfl rfl rfl rfl rfl) rfl rfl ?_)
  refine g_step rfl (s_lit ty41 ty3 rfl rfl rfl rfl rfl rfl rfl ?_)
  refine g_step rfl (s_callp rfl rfl rfl (path_ok ⟨1, 0, 0, ⟨1, 3⟩, false, [⟨40, [1, 2, 3, 4]⟩]⟩ [2, 1, 3] _ ⟨by simp, by simp [bsize]⟩ (by simp) _ rfl) ?_)
  rintro _ rfl
  refine g_step rfl (s_val (v_move rfl) rfl rfl ?_)
  refine g_step rfl (s_val (v_extract rfl rfl) rfl rfl ?_)
  refine g_step rfl (s_val (v_extract rfl rfl) rfl rfl ?_)
  refine g_step rfl (s_alloc (av := (.agg [(.int .i64 0), (.int .i64 0), (.int .i64 0), (.int .i64 0), (.int .i64 0), (.bool false), .nil0])) ty28 rfl rfl rfl rfl ?_)
  refine g_step rfl (s_store_all ty28 rfl rfl rfl rfl rfl rfl ?_)
  refine g_step rfl (s_val (v_assign rfl) rfl rfl ?_)
  refine g_nil ?_
  refine g_next hK3 ?_
  refine g_seq (fun K4 hK4 => ?_)
  refine g_region ?_
  refine g_step rfl (s_val (v_sub (b := (encR ⟨0, 65536, 0, ⟨0, 0⟩, false, []⟩)) (v_build (vs := [(1, _)]) (zs := [(.int .i64 0), (.int .i64 0), (.int .i64 0), (.int .i64 0), (.int .i64 0), (.bool false), .nil0]) (cells := [_, _, _, _, _, _, _]) ty28 pl28 rfl rfl rfl) (ASub.of_wk rfl)) rfl rfl ?_)
  refine g_step rfl (s_callp rfl rfl rfl (hop_ok 1 ⟨0, 65536, 0, ⟨0, 0⟩, false, []⟩ _ ⟨by simp, by simp [bsize]⟩) ?_)
  rintro _ rfl
  refine g_step rfl (s_val (v_move rfl) rfl rfl ?_)
  refine g_step rfl (s_val (v_extract rfl rfl) rfl rfl ?_)
  refine g_step rfl (s_val (v_extract rfl rfl) rfl rfl ?_)
  refine g_step rfl (s_alloc (av := (.agg [(.int .i64 0), (.int .i64 0), (.int .i64 0), (.int .i64 0), (.int .i64 0), (.bool false), .nil0])) ty28 rfl rfl rfl rfl ?_)
  refine g_step rfl (s_store_all ty28 rfl rfl rfl rfl rfl rfl ?_)
  refine g_step rfl (s_val (v_assign rfl) rfl rfl ?_)
  refine g_nil ?_
  refine g_next hK4 ?_
  first | refine g_keep [3, 5, 7] [2, 4] [2, 4] (keep_cons rfl (keep_cons rfl (keep_cons rfl keep_nil))) (lkeep_cons rfl (lkeep_cons rfl lkeep_nil)) (keep_cons rfl (keep_cons rfl keep_nil)) rfl ?_ | refine g_keep [3, 5, 7] [2, 4] [2, 4] rfl rfl rfl rfl ?_
  refine g_seq (fun K5 hK5 => ?_)
  refine g_region ?_
  refine g_step rfl (s_val (v_move rfl) rfl rfl ?_)
  refine g_step rfl (s_val (v_move rfl) rfl rfl ?_)
  refine g_split 31 rfl (fun hg31 => ?_) (fun hg31 => ?_)
  · try simp only [decide_eq_true_eq, decide_eq_false_iff_not, Bool.not_eq_true', Bool.not_eq_false', Bool.not_eq_eq_eq_not, Bool.not_true, Bool.not_false, Bool.and_eq_true, Bool.or_eq_true, Bool.or_eq_false_iff, beq_iff_eq, beq_eq_false_iff_ne, ne_eq, Int.not_lt, Int.not_le, Decidable.not_not] at hg31
    refine g_step_yes (j := 1) (t := 31) rfl rfl rfl rfl (s_fieldAddr ty28 fo28_5 ty26 rfl rfl ?_)
    refine g_step_yes (j := 1) (t := 31) rfl rfl rfl rfl (s_val (v_loadl ty26 rfl rfl rfl rfl) rfl rfl ?_)
    refine g_step_yes (j := 1) (t := 31) rfl rfl rfl rfl (s_val (v_len ty26 rfl (by first | rfl | assumption) (by first | exact List.length_map .. | rfl)) rfl rfl ?_)
    refine g_step_yes (j := 1) (t := 31) rfl rfl rfl rfl (s_val (v_eql rfl rfl) rfl rfl ?_)
    refine g_step rfl (s_val (v_pick_t rfl rfl) rfl rfl ?_)
    refine g_step rfl (s_val (v_move rfl) rfl rfl ?_)
    refine g_split 37 rfl (fun hg37 => ?_) (fun hg37 => ?_)
    · try simp only [decide_eq_true_eq, decide_eq_false_iff_not, Bool.not_eq_true', Bool.not_eq_false', Bool.not_eq_eq_eq_not, Bool.not_true, Bool.not_false, Bool.and_eq_true, Bool.or_eq_true, Bool.or_eq_false_iff, beq_iff_eq, beq_eq_false_iff_ne, ne_eq, Int.not_lt, Int.not_le, Decidable.not_not] at hg37
      refine g_step_yes (j := 7) (t := 37) rfl rfl rfl rfl (s_fieldAddr ty28 fo28_4 ty4 rfl rfl ?_)
      refine g_step_yes (j := 7) (t := 37) rfl rfl rfl rfl (s_val (v_loadl ty4 rfl rfl rfl rfl) rfl rfl ?_)
      refine g_step_yes (j := 7) (t := 37) rfl rfl rfl rfl (s_val (v_not rfl) rfl rfl ?_)
      refine g_step rfl (s_val (v_pick_t rfl rfl) rfl rfl ?_)
      refine g_step rfl (s_val (v_move rfl) rfl rfl ?_)
      refine g_split 42 rfl (fun hg42 => ?_) (fun hg42 => ?_)
      · try simp only [decide_eq_true_eq, decide_eq_false_iff_not, Bool.not_eq_true', Bool.not_eq_false', Bool.not_eq_eq_eq_not, Bool.not_true, Bool.not_false, Bool.and_eq_true, Bool.or_eq_true, Bool.or_eq_false_iff, beq_iff_eq, beq_eq_false_iff_ne, ne_eq, Int.not_lt, Int.not_le, Decidable.not_not] at hg42
        refine g_step_yes (j := 12) (t := 42) rfl rfl rfl rfl (s_val (v_move rfl) rfl rfl ?_)
        refine g_step rfl (s_val (v_pick_t rfl rfl) rfl rfl ?_)
        refine g_step rfl (s_val (v_move rfl) rfl rfl ?_)
        refine g_split 45 rfl (fun hg45 => ?_) (fun hg45 => ?_)
        · try simp only [decide_eq_true_eq, decide_eq_false_iff_not, Bool.not_eq_true', Bool.not_eq_false', Bool.not_eq_eq_eq_not, Bool.not_true, Bool.not_false, Bool.and_eq_true, Bool.or_eq_true, Bool.or_eq_false_iff, beq_iff_eq, beq_eq_false_iff_ne, ne_eq, Int.not_lt, Int.not_le, Decidable.not_not] at hg45
          refine g_step_yes (j := 15) (t := 45) rfl rfl rfl rfl (s_fieldAddr ty28 fo28_5 ty26 rfl rfl ?_)
          refine g_step_yes (j := 15) (t := 45) rfl rfl rfl rfl (s_val (v_loadl ty26 rfl rfl rfl rfl) rfl rfl ?_)
          refine g_step_yes (j := 15) (t := 45) rfl rfl rfl rfl (s_val (v_len ty26 rfl (by first | rfl | assumption) (by first | exact List.length_map .. | rfl)) rfl rfl ?_)
          refine g_step_yes (j := 15) (t := 45) rfl rfl rfl rfl (s_val (v_eql rfl rfl) rfl rfl ?_)
          refine g_step rfl (s_val (v_pick_t rfl rfl) rfl rfl ?_)
          refine g_step rfl (s_val (v_move rfl) rfl rfl ?_)
          refine g_split 51 rfl (fun hg51 => ?_) (fun hg51 => ?_)
          · try simp only [decide_eq_true_eq, decide_eq_false_iff_not, Bool.not_eq_true', Bool.not_eq_false', Bool.not_eq_eq_eq_not, Bool.not_true, Bool.not_false, Bool.and_eq_true, Bool.or_eq_true, Bool.or_eq_false_iff, beq_iff_eq, beq_eq_false_iff_ne, ne_eq, Int.not_lt, Int.not_le, Decidable.not_not] at hg51
            refine g_step_yes (j := 21) (t := 51) rfl rfl rfl rfl (s_fieldAddr ty28 fo28_4 ty4 rfl rfl ?_)
            refine g_step_yes (j := 21) (t := 51) rfl rfl rfl rfl (s_val (v_loadl ty4 rfl rfl rfl rfl) rfl rfl ?_)
            refine g_step rfl (s_val (v_pick_t rfl rfl) rfl rfl ?_)
            refine g_step rfl (s_val (v_move rfl) rfl rfl ?_)
            refine g_split 55 rfl (fun hg55 => ?_) (fun hg55 => ?_)
            · try simp only [decide_eq_true_eq, decide_eq_false_iff_not, Bool.not_eq_true', Bool.not_eq_false', Bool.not_eq_eq_eq_not, Bool.not_true, Bool.not_false, Bool.and_eq_true, Bool.or_eq_true, Bool.or_eq_false_iff, beq_iff_eq, beq_eq_false_iff_ne, ne_eq, Int.not_lt, Int.not_le, Decidable.not_not] at hg55
              refine g_step_yes (j := 25) (t := 55) rfl rfl rfl rfl (s_fieldAddr ty28 fo28_0 ty3 rfl rfl ?_)
              refine g_step_yes (j := 25) (t := 55) rfl rfl rfl rfl (s_val (v_loadl ty3 rfl rfl rfl rfl) rfl rfl ?_)
              refine g_step_yes (j := 25) (t := 55) rfl rfl rfl rfl (s_val (v_eql rfl rfl) rfl rfl ?_)
              refine g_step rfl (s_val (v_pick_t rfl rfl) rfl rfl ?_)
              refine g_step rfl (s_val (v_move rfl) rfl rfl ?_)
              refine g_split 60 rfl (fun hg60 => ?_) (fun hg60 => ?_)
              · try simp only [decide_eq_true_eq, decide_eq_false_iff_not, Bool.not_eq_true', Bool.not_eq_false', Bool.not_eq_eq_eq_not, Bool.not_true, Bool.not_false, Bool.and_eq_true, Bool.or_eq_true, Bool.or_eq_false_iff, beq_iff_eq, beq_eq_false_iff_ne, ne_eq, Int.not_lt, Int.not_le, Decidable.not_not] at hg60
                refine g_step_yes (j := 30) (t := 60) rfl rfl rfl rfl (s_val (v_move rfl) rfl rfl ?_)
                refine g_step_yes (j := 30) (t := 60) rfl rfl rfl rfl (s_val (v_not rfl) rfl rfl ?_)
                refine g_step rfl (s_val (v_pick_t rfl rfl) rfl rfl ?_)
                refine g_step rfl (s_val (v_assign rfl) rfl rfl ?_)
                refine g_nil ?_
                refine g_next hK5 ?_
                first | refine g_keep [0] [] [] (keep_cons rfl keep_nil) lkeep_nil keep_nil rfl ?_ | refine g_keep [0] [] [] rfl rfl rfl rfl ?_
                refine g_ret ?_
                refine g_end1 (.inl rfl) Try.results22 (.tmp rfl) [] (ASub.refl _) (AHeap.sub_refl _) (fun p hp => by cases hp) ⟨rfl, ?_⟩
                rfl
              · exfalso; (try simp only [decide_eq_true_eq, decide_eq_false_iff_not, Bool.not_eq_true', Bool.not_eq_false', Bool.not_eq_eq_eq_not, Bool.not_true, Bool.not_false, Bool.and_eq_true, Bool.or_eq_true, Bool.or_eq_false_iff, beq_iff_eq, beq_eq_false_iff_ne, ne_eq, Int.not_lt, Int.not_le, Decidable.not_not] at hg60); revert hg60; decide
            · exfalso; (try simp only [decide_eq_true_eq, decide_eq_false_iff_not, Bool.not_eq_true', Bool.not_eq_false', Bool.not_eq_eq_eq_not, Bool.not_true, Bool.not_false, Bool.and_eq_true, Bool.or_eq_true, Bool.or_eq_false_iff, beq_iff_eq, beq_eq_false_iff_ne, ne_eq, Int.not_lt, Int.not_le, Decidable.not_not] at hg55); revert hg55; decide
          · exfalso; (try simp only [decide_eq_true_eq, decide_eq_false_iff_not, Bool.not_eq_true', Bool.not_eq_false', Bool.not_eq_eq_eq_not, Bool.not_true, Bool.not_false, Bool.and_eq_true, Bool.or_eq_true, Bool.or_eq_false_iff, beq_iff_eq, beq_eq_false_iff_ne, ne_eq, Int.not_lt, Int.not_le, Decidable.not_not] at hg51); revert hg51; decide
        · exfalso; (try simp only [decide_eq_true_eq, decide_eq_false_iff_not, Bool.not_eq_true', Bool.not_eq_false', Bool.not_eq_eq_eq_not, Bool.not_true, Bool.not_false, Bool.and_eq_true, Bool.or_eq_true, Bool.or_eq_false_iff, beq_iff_eq, beq_eq_false_iff_ne, ne_eq, Int.not_lt, Int.not_le, Decidable.not_not] at hg45); revert hg45; decide
      · exfalso; (try simp only [decide_eq_true_eq, decide_eq_false_iff_not, Bool.not_eq_true', Bool.not_eq_false', Bool.not_eq_eq_eq_not, Bool.not_true, Bool.not_false, Bool.and_eq_true, Bool.or_eq_true, Bool.or_eq_false_iff, beq_iff_eq, beq_eq_false_iff_ne, ne_eq, Int.not_lt, Int.not_le, Decidable.not_not] at hg42); revert hg42; decide
    · exfalso; (try simp only [decide_eq_true_eq, decide_eq_false_iff_not, Bool.not_eq_true', Bool.not_eq_false', Bool.not_eq_eq_eq_not, Bool.not_true, Bool.not_false, Bool.and_eq_true, Bool.or_eq_true, Bool.or_eq_false_iff, beq_iff_eq, beq_eq_false_iff_ne, ne_eq, Int.not_lt, Int.not_le, Decidable.not_not] at hg37); revert hg37; decide
  · exfalso; (try simp only [decide_eq_true_eq, decide_eq_false_iff_not, Bool.not_eq_true', Bool.not_eq_false', Bool.not_eq_eq_eq_not, Bool.not_true, Bool.not_false, Bool.and_eq_true, Bool.or_eq_true, Bool.or_eq_false_iff, beq_iff_eq, beq_eq_false_iff_ne, ne_eq, Int.not_lt, Int.not_le, Decidable.not_not] at hg31); revert hg31; decide

theorem carryPaths_ok (r : Rc) (l : List Int) (hhr : Held r.bag) (hlen : l.length ≤ 140737488351232) (G : AHeap) : PCalls Try.prog 5 [encR r, .imm (l.map (.int .i64))] G (fun v => v = .bool true) := by
  refine LCalls.intro 105 fi5 rfl Try.ntmps5 rfl (fun _ h => h.elim) (fun H hH w0 hw0 => ?_)
  refine g_seq (fun K0 hK0 => ?_)
  refine g_region ?_
  refine g_step rfl (s_box rfl rfl rfl rfl ?_)
  refine g_step rfl (s_val (v_assign rfl) rfl rfl ?_)
  refine g_nil ?_
  refine g_next hK0 ?_
  refine g_seq (fun K1 hK1 => ?_)
  refine g_seq (fun K2 hK2 => ?_)
  refine g_region ?_
  refine g_step rfl (s_val (by first | exact v_loadl_all ty28 rfl rfl rfl rfl rfl | exact v_loadl_part (cs := [_, _, _, _, _, _, _]) ty28 rfl rfl rfl rfl rfl rfl) rfl rfl ?_)
  refine g_step rfl (s_lit ty23 ty28 rfl rfl rfl rfl rfl rfl rfl ?_)
  refine g_step rfl (s_callp rfl rfl rfl (fewL_ok [r] _ _ rfl (by simp [hhr]) (by simp)) ?_)
  rintro _ rfl
  refine g_step rfl (s_val (v_not rfl) rfl rfl ?_)
  refine g_step rfl (s_val (v_move rfl) rfl rfl ?_)
  refine g_split 16 rfl (fun hg16 => ?_) (fun hg16 => ?_)
  · try simp only [decide_eq_true_eq, decide_eq_false_iff_not, Bool.not_eq_true', Bool.not_eq_false', Bool.not_eq_eq_eq_not, Bool.not_true, Bool.not_false, Bool.and_eq_true, Bool.or_eq_true, Bool.or_eq_false_iff, beq_iff_eq, beq_eq_false_iff_ne, ne_eq, Int.not_lt, Int.not_le, Decidable.not_not] at hg16
    refine g_step_no (j := 4) (t := 16) rfl rfl rfl rfl rfl rfl rfl ?_
    refine g_step_no (j := 4) (t := 16) rfl rfl rfl rfl rfl rfl rfl ?_
    refine g_step_no (j := 4) (t := 16) rfl rfl rfl rfl rfl rfl rfl ?_
    refine g_step rfl (s_val (v_pick_t rfl rfl) rfl rfl ?_)
    refine g_nil ?_
    refine g_next hK2 ?_
    refine g_cond rfl (fun _ => ?_) (fun h => by cases h)
    refine g_seq (fun K3 hK3 => ?_)
    refine g_region ?_
    refine g_step rfl (s_callp rfl rfl rfl (awake18_ok _) ?_)
    rintro _ rfl
    refine g_step rfl (s_val (v_assign rfl) rfl rfl ?_)
    refine g_nil ?_
    refine g_next hK3 ?_
    refine g_ret ?_
    refine g_then_ret ?_
    refine g_end1 (.inl rfl) Try.results5 (.tmp rfl) [] (ASub.refl _) (AHeap.sub_refl _) (fun p hp => by cases hp) ⟨rfl, ?_⟩
    rfl
  · try simp only [decide_eq_true_eq, decide_eq_false_iff_not, Bool.not_eq_true', Bool.not_eq_false', Bool.not_eq_eq_eq_not, Bool.not_true, Bool.not_false, Bool.and_eq_true, Bool.or_eq_true, Bool.or_eq_false_iff, beq_iff_eq, beq_eq_false_iff_ne, ne_eq, Int.not_lt, Int.not_le, Decidable.not_not] at hg16
    refine g_step_yes (j := 4) (t := 16) rfl rfl rfl rfl (s_val (v_move rfl) rfl rfl ?_)
    refine g_step_yes (j := 4) (t := 16) rfl rfl rfl rfl (s_val (v_len ty41 rfl (by first | rfl | assumption) (by first | exact List.length_map .. | rfl)) rfl rfl ?_)
    refine g_step_yes (j := 4) (t := 16) rfl rfl rfl rfl (s_val (v_gtr rfl rfl) rfl rfl ?_)
    refine g_step rfl (s_val (v_pick_f rfl rfl) rfl rfl ?_)
    refine g_nil ?_
    refine g_next hK2 ?_
    refine g_cond rfl (fun hc20 => ?_) (fun hc20 => ?_)
    · try simp only [decide_eq_true_eq, decide_eq_false_iff_not, Bool.not_eq_true', Bool.not_eq_false', Bool.not_eq_eq_eq_not, Bool.not_true, Bool.not_false, Bool.and_eq_true, Bool.or_eq_true, Bool.or_eq_false_iff, beq_iff_eq, beq_eq_false_iff_ne, ne_eq, Int.not_lt, Int.not_le, Decidable.not_not] at hc20
      refine g_seq (fun K4 hK4 => ?_)
      refine g_region ?_
      refine g_step rfl (s_callp rfl rfl rfl (awake18_ok _) ?_)
      rintro _ rfl
      refine g_step rfl (s_val (v_assign rfl) rfl rfl ?_)
      refine g_nil ?_
      refine g_next hK4 ?_
      refine g_ret ?_
      refine g_then_ret ?_
      refine g_end1 (.inl rfl) Try.results5 (.tmp rfl) [] (ASub.refl _) (AHeap.sub_refl _) (fun p hp => by cases hp) ⟨rfl, ?_⟩
      rfl
    · try simp only [decide_eq_true_eq, decide_eq_false_iff_not, Bool.not_eq_true', Bool.not_eq_false', Bool.not_eq_eq_eq_not, Bool.not_true, Bool.not_false, Bool.and_eq_true, Bool.or_eq_true, Bool.or_eq_false_iff, beq_iff_eq, beq_eq_false_iff_ne, ne_eq, Int.not_lt, Int.not_le, Decidable.not_not] at hc20
      have hf : few r.bag = true := by simp_all [fewL]
      have hsr := (few_small hf).1
      refine g_skip ?_
      refine g_next hK1 ?_
      refine g_seq (fun K5 hK5 => ?_)
      refine g_region ?_
      refine g_step rfl (s_val (by first | exact v_loadl_all ty28 rfl rfl rfl rfl rfl | exact v_loadl_part (cs := [_, _, _, _, _, _, _]) ty28 rfl rfl rfl rfl rfl rfl) rfl rfl ?_)
      refine g_step rfl (s_val (v_move rfl) rfl rfl ?_)
      refine g_step rfl (s_callp rfl rfl rfl (path_ok r l _ hsr (by omega) _ rfl) ?_)
      rintro _ rfl
      refine g_step rfl (s_val (v_move rfl) rfl rfl ?_)
      refine g_step rfl (s_val (v_extract rfl rfl) rfl rfl ?_)
      refine g_step rfl (s_val (v_extract rfl rfl) rfl rfl ?_)
      refine g_step rfl (s_alloc (av := (.agg [(.int .i64 0), (.int .i64 0), (.int .i64 0), (.int .i64 0), (.int .i64 0), (.bool false), .nil0])) ty28 rfl rfl rfl rfl ?_)
      refine g_step rfl (s_store_all ty28 rfl rfl rfl rfl rfl rfl ?_)
      refine g_step rfl (s_val (v_assign rfl) rfl rfl ?_)
      refine g_nil ?_
      refine g_next hK5 ?_
      refine g_seq (fun K6 hK6 => ?_)
      refine g_region ?_
      refine g_step rfl (s_val (by first | exact v_loadl_all ty28 rfl rfl rfl rfl rfl | exact v_loadl_part (cs := [_, _, _, _, _, _, _]) ty28 rfl rfl rfl rfl rfl rfl) rfl rfl ?_)
      refine g_step rfl (s_alloc (av := (.agg [(.int .i64 0), (.int .i64 0), (.int .i64 0), (.int .i64 0), (.int .i64 0), (.bool false), .nil0])) ty28 rfl rfl rfl rfl ?_)
      refine g_step rfl (s_store_all ty28 rfl rfl rfl rfl rfl rfl ?_)
      refine g_nil ?_
      refine g_next hK6 ?_
      refine g_seq (fun K7 hK7 => ?_)
      refine g_region ?_
      refine g_step rfl (s_val (v_assign rfl) rfl rfl ?_)
      refine g_nil ?_
      refine g_next hK7 ?_
      refine g_seq (fun K8 hK8 => ?_)
      refine g_seq (fun K9 hK9 => ?_)
      refine g_region ?_
      refine g_step rfl (s_val (v_assign rfl) rfl rfl ?_)
      refine g_nil ?_
      refine g_next hK9 ?_
      refine g_block ?_
      first | refine g_keep [1, 6, 8, 9] [2, 5, 7] [2, 5, 7] (keep_cons rfl (keep_cons rfl (keep_cons rfl (keep_cons rfl keep_nil)))) (lkeep_cons rfl (lkeep_cons rfl (lkeep_cons rfl lkeep_nil))) (keep_cons rfl (keep_cons rfl (keep_cons rfl keep_nil))) rfl ?_ | refine g_keep [1, 6, 8, 9] [2, 5, 7] [2, 5, 7] rfl rfl rfl rfl ?_
      refine g_loop (fun n env L B G => ∃ (k : Nat) (u : Bool) (q : Rc), k ≤ l.length ∧ n = l.length - k ∧ env = [(1, .imm (l.map (.int .i64))), (6, .bool (cpath r l).2), (8, .bool u), (9, .int .i64 (k : Int))] ∧ L = [(2, 2, 0), (5, 5, 0), (7, 7, 0)] ∧ B = [(2, encR r), (5, (encR (cpath r l).1)), (7, (encR q))] ∧ H = G ∧ u = (l.take k).all (fun g => csent g r) ∧ q = chops r (l.take k)) (l.length) ⟨0, true, r, Nat.zero_le _, rfl, rfl, rfl, rfl, rfl, ⟨rfl, rfl⟩⟩ (fun n env L B G hI => ?_)
      obtain ⟨k, u, q, hk, rfl, rfl, rfl, rfl, rfl, hu, hq⟩ := hI
      refine g_seq (fun K10 hK10 => ?_)
      refine g_seq (fun K11 hK11 => ?_)
      refine g_region ?_
      refine g_step rfl (s_val (v_move rfl) rfl rfl ?_)
      refine g_step rfl (s_val (v_move rfl) rfl rfl ?_)
      refine g_step rfl (s_val (v_len ty41 rfl (by first | rfl | assumption) (by first | exact List.length_map .. | rfl)) rfl rfl ?_)
      refine g_step rfl (s_val (v_lss rfl rfl) rfl rfl ?_)
      refine g_nil ?_
      refine g_next hK11 ?_
      refine g_cond rfl (fun hc32 => ?_) (fun hc32 => ?_)
      · try simp only [decide_eq_true_eq, decide_eq_false_iff_not, Bool.not_eq_true', Bool.not_eq_false', Bool.not_eq_eq_eq_not, Bool.not_true, Bool.not_false, Bool.and_eq_true, Bool.or_eq_true, Bool.or_eq_false_iff, beq_iff_eq, beq_eq_false_iff_ne, ne_eq, Int.not_lt, Int.not_le, Decidable.not_not] at hc32
        obtain ⟨g, hg⟩ := get_some (l := l) (k := k) (by omega)
        have hsq : Small q.bag := by rw [hq]; exact chops_small _ hsr
        refine g_skip ?_
        refine g_next hK10 ?_
        refine g_seq (fun K12 hK12 => ?_)
        refine g_block ?_
        refine g_seq (fun K13 hK13 => ?_)
        refine g_draw (n := 12) (fun j => !([10] : List Nat).contains j) rfl rfl ?_
        refine m_take 0 false rfl rfl (by kernel_rfl) (by kernel_rfl) (by kernel_rfl) (fun _ _ _ _ h => h) (v_move rfl) rfl rfl ?_
        refine m_take 1 false rfl rfl (by kernel_rfl) (by kernel_rfl) (by kernel_rfl) (fun _ _ _ _ h => h) (v_move rfl) rfl rfl ?_
        refine m_take 2 false rfl rfl (by kernel_rfl) (by kernel_rfl) (by kernel_rfl) (fun _ _ _ _ h => h) (v_indexAddr ty41 ty3 rfl rfl (by first | rfl | assumption) (by first | rfl | exact (rfl : (0 : Int) = ((0 : Nat) : Int)) | exact (Int.toNat_of_nonneg (by omega)).symm) (by first | assumption | exact map_get (by assumption) | rfl) rfl) rfl rfl ?_
        refine m_take 3 true rfl rfl (by kernel_rfl) (by kernel_rfl) (by kernel_rfl) (fun _ _ _ _ h => h) (by first | exact v_load ty3 rfl rfl (by first | rfl | assumption) (by first | assumption | exact map_get (by assumption) | rfl) rfl | exact v_load_box ty3 rfl rfl (by assumption) rfl) rfl rfl ?_
        refine m_take 4 true rfl rfl (by kernel_rfl) (by kernel_rfl) (by kernel_rfl) (fun _ _ _ _ h => h) (by first | exact v_loadl_all ty28 rfl rfl rfl rfl rfl | exact v_loadl_part (cs := [_, _, _, _, _, _, _]) ty28 rfl rfl rfl rfl rfl rfl) rfl rfl ?_
        refine m_all (is := [5, 9]) (by kernel_rfl) rfl (fun _ _ _ => trivial) (fun i hi => ?_)
        rcases (by simpa using hi : i = 5 ∨ i = 9) with rfl | rfl
        · refine ⟨_, rfl, .inl ⟨rfl, ?_⟩⟩
          refine sm_callp rfl rfl rfl (hop_ok g r _ hsr) ?_
          rintro _ rfl
          refine m_take 6 false rfl rfl (by kernel_rfl) (by kernel_rfl) (by kernel_rfl) (fun _ _ _ _ h => h) (v_move rfl) rfl rfl ?_
          refine m_take 7 false rfl rfl (by kernel_rfl) (by kernel_rfl) (by kernel_rfl) (fun _ _ _ _ h => h) (v_extract rfl rfl) rfl rfl ?_
          refine m_take 8 false rfl rfl (by kernel_rfl) (by kernel_rfl) (by kernel_rfl) (fun _ _ _ _ h => h) (v_extract rfl rfl) rfl rfl ?_
          refine m_one 9 (by kernel_rfl) rfl rfl ?_
          refine sm_alloc (av := (.agg [(.int .i64 0), (.int .i64 0), (.int .i64 0), (.int .i64 0), (.int .i64 0), (.bool false), .nil0])) ty28 rfl rfl rfl rfl ?_
          refine m_one 10 (by kernel_rfl) rfl rfl ?_
          refine sm_any rfl (s_store_all ty28 rfl rfl rfl rfl rfl rfl ?_)
          refine m_take 11 false rfl rfl (by kernel_rfl) (by kernel_rfl) (by kernel_rfl) (fun _ _ _ _ h => h) (v_assign rfl) rfl rfl ?_
          refine m_done (by kernel_rfl) ?_
          refine g_next hK13 ?_
          refine g_seq (fun K14 hK14 => ?_)
          refine g_seq (fun K15 hK15 => ?_)
          refine g_draw (n := 32) (fun j => !([] : List Nat).contains j) rfl rfl ?_
          refine m_take 0 false rfl rfl (by kernel_rfl) (by kernel_rfl) (by kernel_rfl) (fun _ _ _ _ h => h) (v_move rfl) rfl rfl ?_
          refine m_take 1 false rfl rfl (by kernel_rfl) (by kernel_rfl) (by kernel_rfl) (fun _ _ _ _ h => h) (v_move rfl) rfl rfl ?_
          refine m_take 2 false rfl rfl (by kernel_rfl) (by kernel_rfl) (by kernel_rfl) (fun _ _ _ _ h => h) (v_move rfl) rfl rfl ?_
          refine m_take 3 false rfl rfl (by kernel_rfl) (by kernel_rfl) (by kernel_rfl) (fun _ _ _ _ h => h) (v_indexAddr ty41 ty3 rfl rfl (by first | rfl | assumption) (by first | rfl | exact (rfl : (0 : Int) = ((0 : Nat) : Int)) | exact (Int.toNat_of_nonneg (by omega)).symm) (by first | assumption | exact map_get (by assumption) | rfl) rfl) rfl rfl ?_
          refine m_take 4 true rfl rfl (by kernel_rfl) (by kernel_rfl) (by kernel_rfl) (fun _ _ _ _ h => h) (by first | exact v_load ty3 rfl rfl (by first | rfl | assumption) (by first | assumption | exact map_get (by assumption) | rfl) rfl | exact v_load_box ty3 rfl rfl (by assumption) rfl) rfl rfl ?_
          refine m_take 5 true rfl rfl (by kernel_rfl) (by kernel_rfl) (by kernel_rfl) (fun _ _ _ _ h => h) (by first | exact v_loadl_all ty28 rfl rfl rfl rfl rfl | exact v_loadl_part (cs := [_, _, _, _, _, _, _]) ty28 rfl rfl rfl rfl rfl rfl) rfl rfl ?_
          refine m_one 6 (by kernel_rfl) rfl rfl ?_
          refine sm_callp rfl rfl rfl (sent18_ok g r _) ?_
          rintro _ rfl
          refine m_take 7 false rfl rfl (by kernel_rfl) (by kernel_rfl) (by kernel_rfl) (fun _ _ _ _ h => h) (v_bool_neq ty4 rfl rfl) rfl rfl ?_
          refine m_take 8 false rfl rfl (by kernel_rfl) (by kernel_rfl) (by kernel_rfl) (fun _ _ _ _ h => h) (v_move rfl) rfl rfl ?_
          refine m_split 52 rfl (fun hg52 => ?_) (fun hg52 => ?_)
          · exfalso; (try simp only [decide_eq_true_eq, decide_eq_false_iff_not, Bool.not_eq_true', Bool.not_eq_false', Bool.not_eq_eq_eq_not, Bool.not_true, Bool.not_false, Bool.and_eq_true, Bool.or_eq_true, Bool.or_eq_false_iff, beq_iff_eq, beq_eq_false_iff_ne, ne_eq, Int.not_lt, Int.not_le, Decidable.not_not] at hg52); simp at hg52
          · try simp only [decide_eq_true_eq, decide_eq_false_iff_not, Bool.not_eq_true', Bool.not_eq_false', Bool.not_eq_eq_eq_not, Bool.not_true, Bool.not_false, Bool.and_eq_true, Bool.or_eq_true, Bool.or_eq_false_iff, beq_iff_eq, beq_eq_false_iff_ne, ne_eq, Int.not_lt, Int.not_le, Decidable.not_not] at hg52
            refine m_take_yes (j := 8) (t := 52) 9 false rfl rfl rfl rfl rfl (by kernel_rfl) (by kernel_rfl) (by kernel_rfl) (fun _ _ _ _ h => h) (v_move rfl) rfl rfl ?_
            refine m_take_yes (j := 8) (t := 52) 10 false rfl rfl rfl rfl rfl (by kernel_rfl) (by kernel_rfl) (by kernel_rfl) (fun _ _ _ _ h => h) (v_move rfl) rfl rfl ?_
            refine m_split 54 rfl (fun hg54 => ?_) (fun hg54 => ?_)
            · try simp only [decide_eq_true_eq, decide_eq_false_iff_not, Bool.not_eq_true', Bool.not_eq_false', Bool.not_eq_eq_eq_not, Bool.not_true, Bool.not_false, Bool.and_eq_true, Bool.or_eq_true, Bool.or_eq_false_iff, beq_iff_eq, beq_eq_false_iff_ne, ne_eq, Int.not_lt, Int.not_le, Decidable.not_not] at hg54
              refine m_take_yes (j := 10) (t := 54) 11 true rfl rfl rfl rfl rfl (by kernel_rfl) (by kernel_rfl) (by kernel_rfl) (fun _ _ _ _ h => h) (by first | exact v_loadl_all ty28 rfl rfl rfl rfl rfl | exact v_loadl_part (cs := [_, _, _, _, _, _, _]) ty28 rfl rfl rfl rfl rfl rfl) rfl rfl ?_
              refine m_take_yes (j := 10) (t := 54) 12 false rfl rfl rfl rfl rfl (by kernel_rfl) (by kernel_rfl) (by kernel_rfl) (fun _ _ _ _ h => h) (v_move rfl) rfl rfl ?_
              refine m_take_yes (j := 10) (t := 54) 13 false rfl rfl rfl rfl rfl (by kernel_rfl) (by kernel_rfl) (by kernel_rfl) (fun _ _ _ _ h => h) (v_move rfl) rfl rfl ?_
              refine m_take_yes (j := 10) (t := 54) 14 false rfl rfl rfl rfl rfl (by kernel_rfl) (by kernel_rfl) (by kernel_rfl) (fun _ _ _ _ h => h) (v_indexAddr ty41 ty3 rfl rfl (by first | rfl | assumption) (by first | rfl | exact (rfl : (0 : Int) = ((0 : Nat) : Int)) | exact (Int.toNat_of_nonneg (by omega)).symm) (by first | assumption | exact map_get (by assumption) | rfl) rfl) rfl rfl ?_
              refine m_take_yes (j := 10) (t := 54) 15 true rfl rfl rfl rfl rfl (by kernel_rfl) (by kernel_rfl) (by kernel_rfl) (fun _ _ _ _ h => h) (by first | exact v_load ty3 rfl rfl (by first | rfl | assumption) (by first | assumption | exact map_get (by assumption) | rfl) rfl | exact v_load_box ty3 rfl rfl (by assumption) rfl) rfl rfl ?_
              refine m_take_yes (j := 10) (t := 54) 16 true rfl rfl rfl rfl rfl (by kernel_rfl) (by kernel_rfl) (by kernel_rfl) (fun _ _ _ _ h => h) (by first | exact v_loadl_all ty28 rfl rfl rfl rfl rfl | exact v_loadl_part (cs := [_, _, _, _, _, _, _]) ty28 rfl rfl rfl rfl rfl rfl) rfl rfl ?_
              refine m_one_yes (j := 10) (t := 54) 17 (by kernel_rfl) rfl rfl rfl rfl rfl ?_
              refine sm_callp rfl rfl rfl (hop18_ok g r _ hsr) ?_
              rintro _ rfl
              refine m_one_yes (j := 10) (t := 54) 18 (by kernel_rfl) rfl rfl rfl rfl rfl ?_
              refine sm_callp rfl rfl rfl (alike_ok (if csent g r = true then chop g r else rzero) (chop g r) _ (hopz_small hsr)) ?_
              rintro _ rfl
              refine m_take_yes (j := 10) (t := 54) 19 false rfl rfl rfl rfl rfl (by kernel_rfl) (by kernel_rfl) (by kernel_rfl) (fun _ _ _ _ h => h) (v_not rfl) rfl rfl ?_
              refine m_take_yes (j := 8) (t := 52) 20 false rfl rfl rfl rfl rfl (by kernel_rfl) (by kernel_rfl) (by kernel_rfl) (fun _ _ _ _ h => h) (v_pick_t rfl rfl) rfl rfl ?_
              refine m_take 21 false rfl rfl (by kernel_rfl) (by kernel_rfl) (by kernel_rfl) (fun _ _ _ _ h => h) (v_pick_f rfl rfl) rfl rfl ?_
              refine m_take 22 false rfl rfl (by kernel_rfl) (by kernel_rfl) (by kernel_rfl) (fun _ _ _ _ h => h) (v_move rfl) rfl rfl ?_
              refine m_split 66 rfl (fun hg66 => ?_) (fun hg66 => ?_)
              · exfalso; (try simp only [decide_eq_true_eq, decide_eq_false_iff_not, Bool.not_eq_true', Bool.not_eq_false', Bool.not_eq_eq_eq_not, Bool.not_true, Bool.not_false, Bool.and_eq_true, Bool.or_eq_true, Bool.or_eq_false_iff, beq_iff_eq, beq_eq_false_iff_ne, ne_eq, Int.not_lt, Int.not_le, Decidable.not_not] at hg66); simp_all
              · try simp only [decide_eq_true_eq, decide_eq_false_iff_not, Bool.not_eq_true', Bool.not_eq_false', Bool.not_eq_eq_eq_not, Bool.not_true, Bool.not_false, Bool.and_eq_true, Bool.or_eq_true, Bool.or_eq_false_iff, beq_iff_eq, beq_eq_false_iff_ne, ne_eq, Int.not_lt, Int.not_le, Decidable.not_not] at hg66
                refine m_take_yes (j := 22) (t := 66) 23 false rfl rfl rfl rfl rfl (by kernel_rfl) (by kernel_rfl) (by kernel_rfl) (fun _ _ _ _ h => h) (v_move rfl) rfl rfl ?_
                refine m_take_yes (j := 22) (t := 66) 24 false rfl rfl rfl rfl rfl (by kernel_rfl) (by kernel_rfl) (by kernel_rfl) (fun _ _ _ _ h => h) (v_not rfl) rfl rfl ?_
                refine m_take_yes (j := 22) (t := 66) 25 false rfl rfl rfl rfl rfl (by kernel_rfl) (by kernel_rfl) (by kernel_rfl) (fun _ _ _ _ h => h) (v_move rfl) rfl rfl ?_
                refine m_split 69 rfl (fun hg69 => ?_) (fun hg69 => ?_)
                · try simp only [decide_eq_true_eq, decide_eq_false_iff_not, Bool.not_eq_true', Bool.not_eq_false', Bool.not_eq_eq_eq_not, Bool.not_true, Bool.not_false, Bool.and_eq_true, Bool.or_eq_true, Bool.or_eq_false_iff, beq_iff_eq, beq_eq_false_iff_ne, ne_eq, Int.not_lt, Int.not_le, Decidable.not_not] at hg69
                  refine m_take_yes (j := 25) (t := 69) 26 true rfl rfl rfl rfl rfl (by kernel_rfl) (by kernel_rfl) (by kernel_rfl) (fun _ _ _ _ h => h) (by first | exact v_loadl_all ty28 rfl rfl rfl rfl rfl | exact v_loadl_part (cs := [_, _, _, _, _, _, _]) ty28 rfl rfl rfl rfl rfl rfl) rfl rfl ?_
                  refine m_take_yes (j := 25) (t := 69) 27 false rfl rfl rfl rfl rfl (by kernel_rfl) (by kernel_rfl) (by kernel_rfl) (fun _ _ _ _ h => h) (v_sub (b := (encR rzero)) (v_build (vs := []) (zs := [(.int .i64 0), (.int .i64 0), (.int .i64 0), (.int .i64 0), (.int .i64 0), (.bool false), .nil0]) (cells := [_, _, _, _, _, _, _]) ty28 pl28 rfl rfl rfl) (ASub.of_wk rfl)) rfl rfl ?_
                  refine m_one_yes (j := 25) (t := 69) 28 (by kernel_rfl) rfl rfl rfl rfl rfl ?_
                  refine sm_callp rfl rfl rfl (alike_ok (if csent g r = true then chop g r else rzero) rzero _ (hopz_small hsr)) ?_
                  rintro _ rfl
                  refine m_take_yes (j := 25) (t := 69) 29 false rfl rfl rfl rfl rfl (by kernel_rfl) (by kernel_rfl) (by kernel_rfl) (fun _ _ _ _ h => h) (v_not rfl) rfl rfl ?_
                  refine m_take_yes (j := 22) (t := 66) 30 false rfl rfl rfl rfl rfl (by kernel_rfl) (by kernel_rfl) (by kernel_rfl) (fun _ _ _ _ h => h) (v_pick_t rfl rfl) rfl rfl ?_
                  refine m_take 31 false rfl rfl (by kernel_rfl) (by kernel_rfl) (by kernel_rfl) (fun _ _ _ _ h => h) (v_pick_f rfl rfl) rfl rfl ?_
                  refine m_done (by kernel_rfl) ?_
                  refine g_next hK15 ?_
                  first | refine g_keep [1, 6, 8, 9, 11, 75] [2, 5, 7] [2, 5, 7] (keep_cons rfl (keep_cons rfl (keep_cons rfl (keep_cons rfl (keep_cons rfl (keep_cons rfl keep_nil)))))) (lkeep_cons rfl (lkeep_cons rfl (lkeep_cons rfl lkeep_nil))) (keep_cons rfl (keep_cons rfl (keep_cons rfl keep_nil))) rfl ?_ | refine g_keep [1, 6, 8, 9, 11, 75] [2, 5, 7] [2, 5, 7] rfl rfl rfl rfl ?_
                  refine g_cond rfl (fun hc75 => ?_) (fun hc75 => ?_)
                  · exfalso; (try simp only [decide_eq_true_eq, decide_eq_false_iff_not, Bool.not_eq_true', Bool.not_eq_false', Bool.not_eq_eq_eq_not, Bool.not_true, Bool.not_false, Bool.and_eq_true, Bool.or_eq_true, Bool.or_eq_false_iff, beq_iff_eq, beq_eq_false_iff_ne, ne_eq, Int.not_lt, Int.not_le, Decidable.not_not] at hc75); simp_all
                  · try simp only [decide_eq_true_eq, decide_eq_false_iff_not, Bool.not_eq_true', Bool.not_eq_false', Bool.not_eq_eq_eq_not, Bool.not_true, Bool.not_false, Bool.and_eq_true, Bool.or_eq_true, Bool.or_eq_false_iff, beq_iff_eq, beq_eq_false_iff_ne, ne_eq, Int.not_lt, Int.not_le, Decidable.not_not] at hc75
                    refine g_skip ?_
                    refine g_next hK14 ?_
                    refine g_seq (fun K16 hK16 => ?_)
                    refine g_seq (fun K17 hK17 => ?_)
                    refine g_region ?_
                    refine g_step rfl (s_val (v_move rfl) rfl rfl ?_)
                    refine g_step rfl (s_val (v_not rfl) rfl rfl ?_)
                    refine g_nil ?_
                    refine g_next hK17 ?_
                    refine g_cond rfl (fun hc77 => ?_) (fun hc77 => ?_)
                    · try simp only [decide_eq_true_eq, decide_eq_false_iff_not, Bool.not_eq_true', Bool.not_eq_false', Bool.not_eq_eq_eq_not, Bool.not_true, Bool.not_false, Bool.and_eq_true, Bool.or_eq_true, Bool.or_eq_false_iff, beq_iff_eq, beq_eq_false_iff_ne, ne_eq, Int.not_lt, Int.not_le, Decidable.not_not] at hc77
                      refine g_region ?_
                      refine g_step rfl (s_val (v_assign rfl) rfl rfl ?_)
                      refine g_nil ?_
                      refine g_next hK16 ?_
                      refine g_draw (n := 7) (fun j => !([6] : List Nat).contains j) rfl rfl ?_
                      refine m_take 0 false rfl rfl (by kernel_rfl) (by kernel_rfl) (by kernel_rfl) (fun _ _ _ _ h => h) (v_move rfl) rfl rfl ?_
                      refine m_take 1 false rfl rfl (by kernel_rfl) (by kernel_rfl) (by kernel_rfl) (fun _ _ _ _ h => h) (v_move rfl) rfl rfl ?_
                      refine m_take 2 false rfl rfl (by kernel_rfl) (by kernel_rfl) (by kernel_rfl) (fun _ _ _ _ h => h) (v_indexAddr ty41 ty3 rfl rfl (by first | rfl | assumption) (by first | rfl | exact (rfl : (0 : Int) = ((0 : Nat) : Int)) | exact (Int.toNat_of_nonneg (by omega)).symm) (by first | assumption | exact map_get (by assumption) | rfl) rfl) rfl rfl ?_
                      refine m_take 3 true rfl rfl (by kernel_rfl) (by kernel_rfl) (by kernel_rfl) (fun _ _ _ _ h => h) (by first | exact v_load ty3 rfl rfl (by first | rfl | assumption) (by first | assumption | exact map_get (by assumption) | rfl) rfl | exact v_load_box ty3 rfl rfl (by assumption) rfl) rfl rfl ?_
                      refine m_take 4 true rfl rfl (by kernel_rfl) (by kernel_rfl) (by kernel_rfl) (fun _ _ _ _ h => h) (by first | exact v_loadl_all ty28 rfl rfl rfl rfl rfl | exact v_loadl_part (cs := [_, _, _, _, _, _, _]) ty28 rfl rfl rfl rfl rfl rfl) rfl rfl ?_
                      refine m_one 5 (by kernel_rfl) rfl rfl ?_
                      refine sm_callp rfl rfl rfl (hop18_ok g q _ hsq) ?_
                      rintro _ rfl
                      refine m_one 6 (by kernel_rfl) rfl rfl ?_
                      refine sm_any rfl (s_store_all ty28 rfl rfl rfl rfl rfl rfl ?_)
                      refine m_done (by kernel_rfl) ?_
                      refine g_block_normal ?_
                      refine g_next hK12 ?_
                      refine g_region ?_
                      refine g_step rfl (s_val (v_move rfl) rfl rfl ?_)
                      refine g_step rfl (s_val (v_add rfl rfl (by omega)) rfl rfl ?_)
                      refine g_step rfl (s_val (v_assign rfl) rfl rfl ?_)
                      refine g_nil ?_
                      first | refine g_keep [1, 6, 8, 9] [2, 5, 7] [2, 5, 7] (keep_cons rfl (keep_cons rfl (keep_cons rfl (keep_cons rfl keep_nil)))) (lkeep_cons rfl (lkeep_cons rfl (lkeep_cons rfl lkeep_nil))) (keep_cons rfl (keep_cons rfl (keep_cons rfl keep_nil))) rfl ?_ | refine g_keep [1, 6, 8, 9] [2, 5, 7] [2, 5, 7] rfl rfl rfl rfl ?_
                      first | (have hcx : csent g r = false := hc77; exact g_round _ (by omega) ⟨k + 1, false, (chop g q), by omega, rfl, rfl, rfl, rfl, rfl, ⟨by rw [sentAll_take hg, hc77, Bool.and_false], by rw [chops_take hg, hq]⟩⟩) | (have hcx : csent g r = true := hc77; exact g_round _ (by omega) ⟨k + 1, u, (chop g q), by omega, rfl, rfl, rfl, rfl, rfl, ⟨by rw [sentAll_take hg, hc77, Bool.and_true]; exact hu, by rw [chops_take hg, hq]⟩⟩)
                    · try simp only [decide_eq_true_eq, decide_eq_false_iff_not, Bool.not_eq_true', Bool.not_eq_false', Bool.not_eq_eq_eq_not, Bool.not_true, Bool.not_false, Bool.and_eq_true, Bool.or_eq_true, Bool.or_eq_false_iff, beq_iff_eq, beq_eq_false_iff_ne, ne_eq, Int.not_lt, Int.not_le, Decidable.not_not] at hc77
                      refine g_skip ?_
                      refine g_next hK16 ?_
                      refine g_draw (n := 7) (fun j => !([6] : List Nat).contains j) rfl rfl ?_
                      refine m_take 0 false rfl rfl (by kernel_rfl) (by kernel_rfl) (by kernel_rfl) (fun _ _ _ _ h => h) (v_move rfl) rfl rfl ?_
                      refine m_take 1 false rfl rfl (by kernel_rfl) (by kernel_rfl) (by kernel_rfl) (fun _ _ _ _ h => h) (v_move rfl) rfl rfl ?_
                      refine m_take 2 false rfl rfl (by kernel_rfl) (by kernel_rfl) (by kernel_rfl) (fun _ _ _ _ h => h) (v_indexAddr ty41 ty3 rfl rfl (by first | rfl | assumption) (by first | rfl | exact (rfl : (0 : Int) = ((0 : Nat) : Int)) | exact (Int.toNat_of_nonneg (by omega)).symm) (by first | assumption | exact map_get (by assumption) | rfl) rfl) rfl rfl ?_
                      refine m_take 3 true rfl rfl (by kernel_rfl) (by kernel_rfl) (by kernel_rfl) (fun _ _ _ _ h => h) (by first | exact v_load ty3 rfl rfl (by first | rfl | assumption) (by first | assumption | exact map_get (by assumption) | rfl) rfl | exact v_load_box ty3 rfl rfl (by assumption) rfl) rfl rfl ?_
                      refine m_take 4 true rfl rfl (by kernel_rfl) (by kernel_rfl) (by kernel_rfl) (fun _ _ _ _ h => h) (by first | exact v_loadl_all ty28 rfl rfl rfl rfl rfl | exact v_loadl_part (cs := [_, _, _, _, _, _, _]) ty28 rfl rfl rfl rfl rfl rfl) rfl rfl ?_
                      refine m_one 5 (by kernel_rfl) rfl rfl ?_
                      refine sm_callp rfl rfl rfl (hop18_ok g q _ hsq) ?_
                      rintro _ rfl
                      refine m_one 6 (by kernel_rfl) rfl rfl ?_
                      refine sm_any rfl (s_store_all ty28 rfl rfl rfl rfl rfl rfl ?_)
                      refine m_done (by kernel_rfl) ?_
                      refine g_block_normal ?_
                      refine g_next hK12 ?_
                      refine g_region ?_
                      refine g_step rfl (s_val (v_move rfl) rfl rfl ?_)
                      refine g_step rfl (s_val (v_add rfl rfl (by omega)) rfl rfl ?_)
                      refine g_step rfl (s_val (v_assign rfl) rfl rfl ?_)
                      refine g_nil ?_
                      first | refine g_keep [1, 6, 8, 9] [2, 5, 7] [2, 5, 7] (keep_cons rfl (keep_cons rfl (keep_cons rfl (keep_cons rfl keep_nil)))) (lkeep_cons rfl (lkeep_cons rfl (lkeep_cons rfl lkeep_nil))) (keep_cons rfl (keep_cons rfl (keep_cons rfl keep_nil))) rfl ?_ | refine g_keep [1, 6, 8, 9] [2, 5, 7] [2, 5, 7] rfl rfl rfl rfl ?_
                      first | (have hcx : csent g r = false := hc77; exact g_round _ (by omega) ⟨k + 1, false, (chop g q), by omega, rfl, rfl, rfl, rfl, rfl, ⟨by rw [sentAll_take hg, hc77, Bool.and_false], by rw [chops_take hg, hq]⟩⟩) | (have hcx : csent g r = true := hc77; exact g_round _ (by omega) ⟨k + 1, u, (chop g q), by omega, rfl, rfl, rfl, rfl, rfl, ⟨by rw [sentAll_take hg, hc77, Bool.and_true]; exact hu, by rw [chops_take hg, hq]⟩⟩)
                · try simp only [decide_eq_true_eq, decide_eq_false_iff_not, Bool.not_eq_true', Bool.not_eq_false', Bool.not_eq_eq_eq_not, Bool.not_true, Bool.not_false, Bool.and_eq_true, Bool.or_eq_true, Bool.or_eq_false_iff, beq_iff_eq, beq_eq_false_iff_ne, ne_eq, Int.not_lt, Int.not_le, Decidable.not_not] at hg69
                  refine m_take_no (j := 25) (t := 69) 26 rfl rfl rfl rfl rfl rfl (by kernel_rfl) (by kernel_rfl) (by kernel_rfl) (fun _ _ _ _ h => h) rfl rfl ?_
                  refine m_take_no (j := 25) (t := 69) 27 rfl rfl rfl rfl rfl rfl (by kernel_rfl) (by kernel_rfl) (by kernel_rfl) (fun _ _ _ _ h => h) rfl rfl ?_
                  refine m_take_no (j := 25) (t := 69) 28 rfl rfl rfl rfl rfl rfl (by kernel_rfl) (by kernel_rfl) (by kernel_rfl) (fun _ _ _ _ h => h) rfl rfl ?_
                  refine m_take_no (j := 25) (t := 69) 29 rfl rfl rfl rfl rfl rfl (by kernel_rfl) (by kernel_rfl) (by kernel_rfl) (fun _ _ _ _ h => h) rfl rfl ?_
                  refine m_take_yes (j := 22) (t := 66) 30 false rfl rfl rfl rfl rfl (by kernel_rfl) (by kernel_rfl) (by kernel_rfl) (fun _ _ _ _ h => h) (v_pick_f rfl rfl) rfl rfl ?_
                  refine m_take 31 false rfl rfl (by kernel_rfl) (by kernel_rfl) (by kernel_rfl) (fun _ _ _ _ h => h) (v_pick_f rfl rfl) rfl rfl ?_
                  refine m_done (by kernel_rfl) ?_
                  refine g_next hK15 ?_
                  first | refine g_keep [1, 6, 8, 9, 11, 75] [2, 5, 7] [2, 5, 7] (keep_cons rfl (keep_cons rfl (keep_cons rfl (keep_cons rfl (keep_cons rfl (keep_cons rfl keep_nil)))))) (lkeep_cons rfl (lkeep_cons rfl (lkeep_cons rfl lkeep_nil))) (keep_cons rfl (keep_cons rfl (keep_cons rfl keep_nil))) rfl ?_ | refine g_keep [1, 6, 8, 9, 11, 75] [2, 5, 7] [2, 5, 7] rfl rfl rfl rfl ?_
                  refine g_cond rfl (fun h => by cases h) (fun _ => ?_)
                  refine g_skip ?_
                  refine g_next hK14 ?_
                  refine g_seq (fun K18 hK18 => ?_)
                  refine g_seq (fun K19 hK19 => ?_)
                  refine g_region ?_
                  refine g_step rfl (s_val (v_move rfl) rfl rfl ?_)
                  refine g_step rfl (s_val (v_not rfl) rfl rfl ?_)
                  refine g_nil ?_
                  refine g_next hK19 ?_
                  refine g_cond rfl (fun hc77 => ?_) (fun hc77 => ?_)
                  · try simp only [decide_eq_true_eq, decide_eq_false_iff_not, Bool.not_eq_true', Bool.not_eq_false', Bool.not_eq_eq_eq_not, Bool.not_true, Bool.not_false, Bool.and_eq_true, Bool.or_eq_true, Bool.or_eq_false_iff, beq_iff_eq, beq_eq_false_iff_ne, ne_eq, Int.not_lt, Int.not_le, Decidable.not_not] at hc77
                    refine g_region ?_
                    refine g_step rfl (s_val (v_assign rfl) rfl rfl ?_)
                    refine g_nil ?_
                    refine g_next hK18 ?_
                    refine g_draw (n := 7) (fun j => !([6] : List Nat).contains j) rfl rfl ?_
                    refine m_take 0 false rfl rfl (by kernel_rfl) (by kernel_rfl) (by kernel_rfl) (fun _ _ _ _ h => h) (v_move rfl) rfl rfl ?_
                    refine m_take 1 false rfl rfl (by kernel_rfl) (by kernel_rfl) (by kernel_rfl) (fun _ _ _ _ h => h) (v_move rfl) rfl rfl ?_
                    refine m_take 2 false rfl rfl (by kernel_rfl) (by kernel_rfl) (by kernel_rfl) (fun _ _ _ _ h => h) (v_indexAddr ty41 ty3 rfl rfl (by first | rfl | assumption) (by first | rfl | exact (rfl : (0 : Int) = ((0 : Nat) : Int)) | exact (Int.toNat_of_nonneg (by omega)).symm) (by first | assumption | exact map_get (by assumption) | rfl) rfl) rfl rfl ?_
                    refine m_take 3 true rfl rfl (by kernel_rfl) (by kernel_rfl) (by kernel_rfl) (fun _ _ _ _ h => h) (by first | exact v_load ty3 rfl rfl (by first | rfl | assumption) (by first | assumption | exact map_get (by assumption) | rfl) rfl | exact v_load_box ty3 rfl rfl (by assumption) rfl) rfl rfl ?_
                    refine m_take 4 true rfl rfl (by kernel_rfl) (by kernel_rfl) (by kernel_rfl) (fun _ _ _ _ h => h) (by first | exact v_loadl_all ty28 rfl rfl rfl rfl rfl | exact v_loadl_part (cs := [_, _, _, _, _, _, _]) ty28 rfl rfl rfl rfl rfl rfl) rfl rfl ?_
                    refine m_one 5 (by kernel_rfl) rfl rfl ?_
                    refine sm_callp rfl rfl rfl (hop18_ok g q _ hsq) ?_
                    rintro _ rfl
                    refine m_one 6 (by kernel_rfl) rfl rfl ?_
                    refine sm_any rfl (s_store_all ty28 rfl rfl rfl rfl rfl rfl ?_)
                    refine m_done (by kernel_rfl) ?_
                    refine g_block_normal ?_
                    refine g_next hK12 ?_
                    refine g_region ?_
                    refine g_step rfl (s_val (v_move rfl) rfl rfl ?_)
                    refine g_step rfl (s_val (v_add rfl rfl (by omega)) rfl rfl ?_)
                    refine g_step rfl (s_val (v_assign rfl) rfl rfl ?_)
                    refine g_nil ?_
                    first | refine g_keep [1, 6, 8, 9] [2, 5, 7] [2, 5, 7] (keep_cons rfl (keep_cons rfl (keep_cons rfl (keep_cons rfl keep_nil)))) (lkeep_cons rfl (lkeep_cons rfl (lkeep_cons rfl lkeep_nil))) (keep_cons rfl (keep_cons rfl (keep_cons rfl keep_nil))) rfl ?_ | refine g_keep [1, 6, 8, 9] [2, 5, 7] [2, 5, 7] rfl rfl rfl rfl ?_
                    first | (have hcx : csent g r = false := hc77; exact g_round _ (by omega) ⟨k + 1, false, (chop g q), by omega, rfl, rfl, rfl, rfl, rfl, ⟨by rw [sentAll_take hg, hc77, Bool.and_false], by rw [chops_take hg, hq]⟩⟩) | (have hcx : csent g r = true := hc77; exact g_round _ (by omega) ⟨k + 1, u, (chop g q), by omega, rfl, rfl, rfl, rfl, rfl, ⟨by rw [sentAll_take hg, hc77, Bool.and_true]; exact hu, by rw [chops_take hg, hq]⟩⟩)
                  · try simp only [decide_eq_true_eq, decide_eq_false_iff_not, Bool.not_eq_true', Bool.not_eq_false', Bool.not_eq_eq_eq_not, Bool.not_true, Bool.not_false, Bool.and_eq_true, Bool.or_eq_true, Bool.or_eq_false_iff, beq_iff_eq, beq_eq_false_iff_ne, ne_eq, Int.not_lt, Int.not_le, Decidable.not_not] at hc77
                    refine g_skip ?_
                    refine g_next hK18 ?_
                    refine g_draw (n := 7) (fun j => !([6] : List Nat).contains j) rfl rfl ?_
                    refine m_take 0 false rfl rfl (by kernel_rfl) (by kernel_rfl) (by kernel_rfl) (fun _ _ _ _ h => h) (v_move rfl) rfl rfl ?_
                    refine m_take 1 false rfl rfl (by kernel_rfl) (by kernel_rfl) (by kernel_rfl) (fun _ _ _ _ h => h) (v_move rfl) rfl rfl ?_
                    refine m_take 2 false rfl rfl (by kernel_rfl) (by kernel_rfl) (by kernel_rfl) (fun _ _ _ _ h => h) (v_indexAddr ty41 ty3 rfl rfl (by first | rfl | assumption) (by first | rfl | exact (rfl : (0 : Int) = ((0 : Nat) : Int)) | exact (Int.toNat_of_nonneg (by omega)).symm) (by first | assumption | exact map_get (by assumption) | rfl) rfl) rfl rfl ?_
                    refine m_take 3 true rfl rfl (by kernel_rfl) (by kernel_rfl) (by kernel_rfl) (fun _ _ _ _ h => h) (by first | exact v_load ty3 rfl rfl (by first | rfl | assumption) (by first | assumption | exact map_get (by assumption) | rfl) rfl | exact v_load_box ty3 rfl rfl (by assumption) rfl) rfl rfl ?_
                    refine m_take 4 true rfl rfl (by kernel_rfl) (by kernel_rfl) (by kernel_rfl) (fun _ _ _ _ h => h) (by first | exact v_loadl_all ty28 rfl rfl rfl rfl rfl | exact v_loadl_part (cs := [_, _, _, _, _, _, _]) ty28 rfl rfl rfl rfl rfl rfl) rfl rfl ?_
                    refine m_one 5 (by kernel_rfl) rfl rfl ?_
                    refine sm_callp rfl rfl rfl (hop18_ok g q _ hsq) ?_
                    rintro _ rfl
                    refine m_one 6 (by kernel_rfl) rfl rfl ?_
                    refine sm_any rfl (s_store_all ty28 rfl rfl rfl rfl rfl rfl ?_)
                    refine m_done (by kernel_rfl) ?_
                    refine g_block_normal ?_
                    refine g_next hK12 ?_
                    refine g_region ?_
                    refine g_step rfl (s_val (v_move rfl) rfl rfl ?_)
                    refine g_step rfl (s_val (v_add rfl rfl (by omega)) rfl rfl ?_)
                    refine g_step rfl (s_val (v_assign rfl) rfl rfl ?_)
                    refine g_nil ?_
                    first | refine g_keep [1, 6, 8, 9] [2, 5, 7] [2, 5, 7] (keep_cons rfl (keep_cons rfl (keep_cons rfl (keep_cons rfl keep_nil)))) (lkeep_cons rfl (lkeep_cons rfl (lkeep_cons rfl lkeep_nil))) (keep_cons rfl (keep_cons rfl (keep_cons rfl keep_nil))) rfl ?_ | refine g_keep [1, 6, 8, 9] [2, 5, 7] [2, 5, 7] rfl rfl rfl rfl ?_
                    first | (have hcx : csent g r = false := hc77; exact g_round _ (by omega) ⟨k + 1, false, (chop g q), by omega, rfl, rfl, rfl, rfl, rfl, ⟨by rw [sentAll_take hg, hc77, Bool.and_false], by rw [chops_take hg, hq]⟩⟩) | (have hcx : csent g r = true := hc77; exact g_round _ (by omega) ⟨k + 1, u, (chop g q), by omega, rfl, rfl, rfl, rfl, rfl, ⟨by rw [sentAll_take hg, hc77, Bool.and_true]; exact hu, by rw [chops_take hg, hq]⟩⟩)
            · try simp only [decide_eq_true_eq, decide_eq_false_iff_not, Bool.not_eq_true', Bool.not_eq_false', Bool.not_eq_eq_eq_not, Bool.not_true, Bool.not_false, Bool.and_eq_true, Bool.or_eq_true, Bool.or_eq_false_iff, beq_iff_eq, beq_eq_false_iff_ne, ne_eq, Int.not_lt, Int.not_le, Decidable.not_not] at hg54
              refine m_take_no (j := 10) (t := 54) 11 rfl rfl rfl rfl rfl rfl (by kernel_rfl) (by kernel_rfl) (by kernel_rfl) (fun _ _ _ _ h => h) rfl rfl ?_
              refine m_take_no (j := 10) (t := 54) 12 rfl rfl rfl rfl rfl rfl (by kernel_rfl) (by kernel_rfl) (by kernel_rfl) (fun _ _ _ _ h => h) rfl rfl ?_
              refine m_take_no (j := 10) (t := 54) 13 rfl rfl rfl rfl rfl rfl (by kernel_rfl) (by kernel_rfl) (by kernel_rfl) (fun _ _ _ _ h => h) rfl rfl ?_
              refine m_take_no (j := 10) (t := 54) 14 rfl rfl rfl rfl rfl rfl (by kernel_rfl) (by kernel_rfl) (by kernel_rfl) (fun _ _ _ _ h => h) rfl rfl ?_
              refine m_take_no (j := 10) (t := 54) 15 rfl rfl rfl rfl rfl rfl (by kernel_rfl) (by kernel_rfl) (by kernel_rfl) (fun _ _ _ _ h => h) rfl rfl ?_
              refine m_take_no (j := 10) (t := 54) 16 rfl rfl rfl rfl rfl rfl (by kernel_rfl) (by kernel_rfl) (by kernel_rfl) (fun _ _ _ _ h => h) rfl rfl ?_
              refine m_take_no (j := 10) (t := 54) 17 rfl rfl rfl rfl rfl rfl (by kernel_rfl) (by kernel_rfl) (by kernel_rfl) (fun _ _ _ _ h => h) rfl rfl ?_
              refine m_take_no (j := 10) (t := 54) 18 rfl rfl rfl rfl rfl rfl (by kernel_rfl) (by kernel_rfl) (by kernel_rfl) (fun _ _ _ _ h => h) rfl rfl ?_
              refine m_take_no (j := 10) (t := 54) 19 rfl rfl rfl rfl rfl rfl (by kernel_rfl) (by kernel_rfl) (by kernel_rfl) (fun _ _ _ _ h => h) rfl rfl ?_
              refine m_take_yes (j := 8) (t := 52) 20 false rfl rfl rfl rfl rfl (by kernel_rfl) (by kernel_rfl) (by kernel_rfl) (fun _ _ _ _ h => h) (v_pick_f rfl rfl) rfl rfl ?_
              refine m_take 21 false rfl rfl (by kernel_rfl) (by kernel_rfl) (by kernel_rfl) (fun _ _ _ _ h => h) (v_pick_f rfl rfl) rfl rfl ?_
              refine m_take 22 false rfl rfl (by kernel_rfl) (by kernel_rfl) (by kernel_rfl) (fun _ _ _ _ h => h) (v_move rfl) rfl rfl ?_
              refine m_take_yes (j := 22) (t := 66) 23 false rfl rfl rfl rfl rfl (by kernel_rfl) (by kernel_rfl) (by kernel_rfl) (fun _ _ _ _ h => h) (v_move rfl) rfl rfl ?_
              refine m_take_yes (j := 22) (t := 66) 24 false rfl rfl rfl rfl rfl (by kernel_rfl) (by kernel_rfl) (by kernel_rfl) (fun _ _ _ _ h => h) (v_not rfl) rfl rfl ?_
              refine m_take_yes (j := 22) (t := 66) 25 false rfl rfl rfl rfl rfl (by kernel_rfl) (by kernel_rfl) (by kernel_rfl) (fun _ _ _ _ h => h) (v_move rfl) rfl rfl ?_
              refine m_split 69 rfl (fun hg69 => ?_) (fun hg69 => ?_)
              · try simp only [decide_eq_true_eq, decide_eq_false_iff_not, Bool.not_eq_true', Bool.not_eq_false', Bool.not_eq_eq_eq_not, Bool.not_true, Bool.not_false, Bool.and_eq_true, Bool.or_eq_true, Bool.or_eq_false_iff, beq_iff_eq, beq_eq_false_iff_ne, ne_eq, Int.not_lt, Int.not_le, Decidable.not_not] at hg69
                refine m_take_yes (j := 25) (t := 69) 26 true rfl rfl rfl rfl rfl (by kernel_rfl) (by kernel_rfl) (by kernel_rfl) (fun _ _ _ _ h => h) (by first | exact v_loadl_all ty28 rfl rfl rfl rfl rfl | exact v_loadl_part (cs := [_, _, _, _, _, _, _]) ty28 rfl rfl rfl rfl rfl rfl) rfl rfl ?_
                refine m_take_yes (j := 25) (t := 69) 27 false rfl rfl rfl rfl rfl (by kernel_rfl) (by kernel_rfl) (by kernel_rfl) (fun _ _ _ _ h => h) (v_sub (b := (encR rzero)) (v_build (vs := []) (zs := [(.int .i64 0), (.int .i64 0), (.int .i64 0), (.int .i64 0), (.int .i64 0), (.bool false), .nil0]) (cells := [_, _, _, _, _, _, _]) ty28 pl28 rfl rfl rfl) (ASub.of_wk rfl)) rfl rfl ?_
                refine m_one_yes (j := 25) (t := 69) 28 (by kernel_rfl) rfl rfl rfl rfl rfl ?_
                refine sm_callp rfl rfl rfl (alike_ok (if csent g r = true then chop g r else rzero) rzero _ (hopz_small hsr)) ?_
                rintro _ rfl
                refine m_take_yes (j := 25) (t := 69) 29 false rfl rfl rfl rfl rfl (by kernel_rfl) (by kernel_rfl) (by kernel_rfl) (fun _ _ _ _ h => h) (v_not rfl) rfl rfl ?_
                refine m_take_yes (j := 22) (t := 66) 30 false rfl rfl rfl rfl rfl (by kernel_rfl) (by kernel_rfl) (by kernel_rfl) (fun _ _ _ _ h => h) (v_pick_t rfl rfl) rfl rfl ?_
                refine m_take 31 false rfl rfl (by kernel_rfl) (by kernel_rfl) (by kernel_rfl) (fun _ _ _ _ h => h) (v_pick_f rfl rfl) rfl rfl ?_
                refine m_done (by kernel_rfl) ?_
                refine g_next hK15 ?_
                first | refine g_keep [1, 6, 8, 9, 11, 75] [2, 5, 7] [2, 5, 7] (keep_cons rfl (keep_cons rfl (keep_cons rfl (keep_cons rfl (keep_cons rfl (keep_cons rfl keep_nil)))))) (lkeep_cons rfl (lkeep_cons rfl (lkeep_cons rfl lkeep_nil))) (keep_cons rfl (keep_cons rfl (keep_cons rfl keep_nil))) rfl ?_ | refine g_keep [1, 6, 8, 9, 11, 75] [2, 5, 7] [2, 5, 7] rfl rfl rfl rfl ?_
                refine g_cond rfl (fun hc75 => ?_) (fun hc75 => ?_)
                · exfalso; (try simp only [decide_eq_true_eq, decide_eq_false_iff_not, Bool.not_eq_true', Bool.not_eq_false', Bool.not_eq_eq_eq_not, Bool.not_true, Bool.not_false, Bool.and_eq_true, Bool.or_eq_true, Bool.or_eq_false_iff, beq_iff_eq, beq_eq_false_iff_ne, ne_eq, Int.not_lt, Int.not_le, Decidable.not_not] at hc75); simp_all
                · try simp only [decide_eq_true_eq, decide_eq_false_iff_not, Bool.not_eq_true', Bool.not_eq_false', Bool.not_eq_eq_eq_not, Bool.not_true, Bool.not_false, Bool.and_eq_true, Bool.or_eq_true, Bool.or_eq_false_iff, beq_iff_eq, beq_eq_false_iff_ne, ne_eq, Int.not_lt, Int.not_le, Decidable.not_not] at hc75
                  refine g_skip ?_
                  refine g_next hK14 ?_
                  refine g_seq (fun K20 hK20 => ?_)
                  refine g_seq (fun K21 hK21 => ?_)
                  refine g_region ?_
                  refine g_step rfl (s_val (v_move rfl) rfl rfl ?_)
                  refine g_step rfl (s_val (v_not rfl) rfl rfl ?_)
                  refine g_nil ?_
                  refine g_next hK21 ?_
                  refine g_cond rfl (fun hc77 => ?_) (fun hc77 => ?_)
                  · try simp only [decide_eq_true_eq, decide_eq_false_iff_not, Bool.not_eq_true', Bool.not_eq_false', Bool.not_eq_eq_eq_not, Bool.not_true, Bool.not_false, Bool.and_eq_true, Bool.or_eq_true, Bool.or_eq_false_iff, beq_iff_eq, beq_eq_false_iff_ne, ne_eq, Int.not_lt, Int.not_le, Decidable.not_not] at hc77
                    refine g_region ?_
                    refine g_step rfl (s_val (v_assign rfl) rfl rfl ?_)
                    refine g_nil ?_
                    refine g_next hK20 ?_
                    refine g_draw (n := 7) (fun j => !([6] : List Nat).contains j) rfl rfl ?_
                    refine m_take 0 false rfl rfl (by kernel_rfl) (by kernel_rfl) (by kernel_rfl) (fun _ _ _ _ h => h) (v_move rfl) rfl rfl ?_
                    refine m_take 1 false rfl rfl (by kernel_rfl) (by kernel_rfl) (by kernel_rfl) (fun _ _ _ _ h => h) (v_move rfl) rfl rfl ?_
                    refine m_take 2 false rfl rfl (by kernel_rfl) (by kernel_rfl) (by kernel_rfl) (fun _ _ _ _ h => h) (v_indexAddr ty41 ty3 rfl rfl (by first | rfl | assumption) (by first | rfl | exact (rfl : (0 : Int) = ((0 : Nat) : Int)) | exact (Int.toNat_of_nonneg (by omega)).symm) (by first | assumption | exact map_get (by assumption) | rfl) rfl) rfl rfl ?_
                    refine m_take 3 true rfl rfl (by kernel_rfl) (by kernel_rfl) (by kernel_rfl) (fun _ _ _ _ h => h) (by first | exact v_load ty3 rfl rfl (by first | rfl | assumption) (by first | assumption | exact map_get (by assumption) | rfl) rfl | exact v_load_box ty3 rfl rfl (by assumption) rfl) rfl rfl ?_
                    refine m_take 4 true rfl rfl (by kernel_rfl) (by kernel_rfl) (by kernel_rfl) (fun _ _ _ _ h => h) (by first | exact v_loadl_all ty28 rfl rfl rfl rfl rfl | exact v_loadl_part (cs := [_, _, _, _, _, _, _]) ty28 rfl rfl rfl rfl rfl rfl) rfl rfl ?_
                    refine m_one 5 (by kernel_rfl) rfl rfl ?_
                    refine sm_callp rfl rfl rfl (hop18_ok g q _ hsq) ?_
                    rintro _ rfl
                    refine m_one 6 (by kernel_rfl) rfl rfl ?_
                    refine sm_any rfl (s_store_all ty28 rfl rfl rfl rfl rfl rfl ?_)
                    refine m_done (by kernel_rfl) ?_
                    refine g_block_normal ?_
                    refine g_next hK12 ?_
                    refine g_region ?_
                    refine g_step rfl (s_val (v_move rfl) rfl rfl ?_)
                    refine g_step rfl (s_val (v_add rfl rfl (by omega)) rfl rfl ?_)
                    refine g_step rfl (s_val (v_assign rfl) rfl rfl ?_)
                    refine g_nil ?_
                    first | refine g_keep [1, 6, 8, 9] [2, 5, 7] [2, 5, 7] (keep_cons rfl (keep_cons rfl (keep_cons rfl (keep_cons rfl keep_nil)))) (lkeep_cons rfl (lkeep_cons rfl (lkeep_cons rfl lkeep_nil))) (keep_cons rfl (keep_cons rfl (keep_cons rfl keep_nil))) rfl ?_ | refine g_keep [1, 6, 8, 9] [2, 5, 7] [2, 5, 7] rfl rfl rfl rfl ?_
                    first | (have hcx : csent g r = false := hc77; exact g_round _ (by omega) ⟨k + 1, false, (chop g q), by omega, rfl, rfl, rfl, rfl, rfl, ⟨by rw [sentAll_take hg, hc77, Bool.and_false], by rw [chops_take hg, hq]⟩⟩) | (have hcx : csent g r = true := hc77; exact g_round _ (by omega) ⟨k + 1, u, (chop g q), by omega, rfl, rfl, rfl, rfl, rfl, ⟨by rw [sentAll_take hg, hc77, Bool.and_true]; exact hu, by rw [chops_take hg, hq]⟩⟩)
                  · try simp only [decide_eq_true_eq, decide_eq_false_iff_not, Bool.not_eq_true', Bool.not_eq_false', Bool.not_eq_eq_eq_not, Bool.not_true, Bool.not_false, Bool.and_eq_true, Bool.or_eq_true, Bool.or_eq_false_iff, beq_iff_eq, beq_eq_false_iff_ne, ne_eq, Int.not_lt, Int.not_le, Decidable.not_not] at hc77
                    refine g_skip ?_
                    refine g_next hK20 ?_
                    refine g_draw (n := 7) (fun j => !([6] : List Nat).contains j) rfl rfl ?_
                    refine m_take 0 false rfl rfl (by kernel_rfl) (by kernel_rfl) (by kernel_rfl) (fun _ _ _ _ h => h) (v_move rfl) rfl rfl ?_
                    refine m_take 1 false rfl rfl (by kernel_rfl) (by kernel_rfl) (by kernel_rfl) (fun _ _ _ _ h => h) (v_move rfl) rfl rfl ?_
                    refine m_take 2 false rfl rfl (by kernel_rfl) (by kernel_rfl) (by kernel_rfl) (fun _ _ _ _ h => h) (v_indexAddr ty41 ty3 rfl rfl (by first | rfl | assumption) (by first | rfl | exact (rfl : (0 : Int) = ((0 : Nat) : Int)) | exact (Int.toNat_of_nonneg (by omega)).symm) (by first | assumption | exact map_get (by assumption) | rfl) rfl) rfl rfl ?_
                    refine m_take 3 true rfl rfl (by kernel_rfl) (by kernel_rfl) (by kernel_rfl) (fun _ _ _ _ h => h) (by first | exact v_load ty3 rfl rfl (by first | rfl | assumption) (by first | assumption | exact map_get (by assumption) | rfl) rfl | exact v_load_box ty3 rfl rfl (by assumption) rfl) rfl rfl ?_
                    refine m_take 4 true rfl rfl (by kernel_rfl) (by kernel_rfl) (by kernel_rfl) (fun _ _ _ _ h => h) (by first | exact v_loadl_all ty28 rfl rfl rfl rfl rfl | exact v_loadl_part (cs := [_, _, _, _, _, _, _]) ty28 rfl rfl rfl rfl rfl rfl) rfl rfl ?_
                    refine m_one 5 (by kernel_rfl) rfl rfl ?_
                    refine sm_callp rfl rfl rfl (hop18_ok g q _ hsq) ?_
                    rintro _ rfl
                    refine m_one 6 (by kernel_rfl) rfl rfl ?_
                    refine sm_any rfl (s_store_all ty28 rfl rfl rfl rfl rfl rfl ?_)
                    refine m_done (by kernel_rfl) ?_
                    refine g_block_normal ?_
                    refine g_next hK12 ?_
                    refine g_region ?_
                    refine g_step rfl (s_val (v_move rfl) rfl rfl ?_)
                    refine g_step rfl (s_val (v_add rfl rfl (by omega)) rfl rfl ?_)
                    refine g_step rfl (s_val (v_assign rfl) rfl rfl ?_)
                    refine g_nil ?_
                    first | refine g_keep [1, 6, 8, 9] [2, 5, 7] [2, 5, 7] (keep_cons rfl (keep_cons rfl (keep_cons rfl (keep_cons rfl keep_nil)))) (lkeep_cons rfl (lkeep_cons rfl (lkeep_cons rfl lkeep_nil))) (keep_cons rfl (keep_cons rfl (keep_cons rfl keep_nil))) rfl ?_ | refine g_keep [1, 6, 8, 9] [2, 5, 7] [2, 5, 7] rfl rfl rfl rfl ?_
                    first | (have hcx : csent g r = false := hc77; exact g_round _ (by omega) ⟨k + 1, false, (chop g q), by omega, rfl, rfl, rfl, rfl, rfl, ⟨by rw [sentAll_take hg, hc77, Bool.and_false], by rw [chops_take hg, hq]⟩⟩) | (have hcx : csent g r = true := hc77; exact g_round _ (by omega) ⟨k + 1, u, (chop g q), by omega, rfl, rfl, rfl, rfl, rfl, ⟨by rw [sentAll_take hg, hc77, Bool.and_true]; exact hu, by rw [chops_take hg, hq]⟩⟩)
              · try simp only [decide_eq_true_eq, decide_eq_false_iff_not, Bool.not_eq_true', Bool.not_eq_false', Bool.not_eq_eq_eq_not, Bool.not_true, Bool.not_false, Bool.and_eq_true, Bool.or_eq_true, Bool.or_eq_false_iff, beq_iff_eq, beq_eq_false_iff_ne, ne_eq, Int.not_lt, Int.not_le, Decidable.not_not] at hg69
                refine m_take_no (j := 25) (t := 69) 26 rfl rfl rfl rfl rfl rfl (by kernel_rfl) (by kernel_rfl) (by kernel_rfl) (fun _ _ _ _ h => h) rfl rfl ?_
                refine m_take_no (j := 25) (t := 69) 27 rfl rfl rfl rfl rfl rfl (by kernel_rfl) (by kernel_rfl) (by kernel_rfl) (fun _ _ _ _ h => h) rfl rfl ?_
                refine m_take_no (j := 25) (t := 69) 28 rfl rfl rfl rfl rfl rfl (by kernel_rfl) (by kernel_rfl) (by kernel_rfl) (fun _ _ _ _ h => h) rfl rfl ?_
                refine m_take_no (j := 25) (t := 69) 29 rfl rfl rfl rfl rfl rfl (by kernel_rfl) (by kernel_rfl) (by kernel_rfl) (fun _ _ _ _ h => h) rfl rfl ?_
                refine m_take_yes (j := 22) (t := 66) 30 false rfl rfl rfl rfl rfl (by kernel_rfl) (by kernel_rfl) (by kernel_rfl) (fun _ _ _ _ h => h) (v_pick_f rfl rfl) rfl rfl ?_
                refine m_take 31 false rfl rfl (by kernel_rfl) (by kernel_rfl) (by kernel_rfl) (fun _ _ _ _ h => h) (v_pick_f rfl rfl) rfl rfl ?_
                refine m_done (by kernel_rfl) ?_
                refine g_next hK15 ?_
                first | refine g_keep [1, 6, 8, 9, 11, 75] [2, 5, 7] [2, 5, 7] (keep_cons rfl (keep_cons rfl (keep_cons rfl (keep_cons rfl (keep_cons rfl (keep_cons rfl keep_nil)))))) (lkeep_cons rfl (lkeep_cons rfl (lkeep_cons rfl lkeep_nil))) (keep_cons rfl (keep_cons rfl (keep_cons rfl keep_nil))) rfl ?_ | refine g_keep [1, 6, 8, 9, 11, 75] [2, 5, 7] [2, 5, 7] rfl rfl rfl rfl ?_
                refine g_cond rfl (fun h => by cases h) (fun _ => ?_)
                refine g_skip ?_
                refine g_next hK14 ?_
                refine g_seq (fun K22 hK22 => ?_)
                refine g_seq (fun K23 hK23 => ?_)
                refine g_region ?_
                refine g_step rfl (s_val (v_move rfl) rfl rfl ?_)
                refine g_step rfl (s_val (v_not rfl) rfl rfl ?_)
                refine g_nil ?_
                refine g_next hK23 ?_
                refine g_cond rfl (fun hc77 => ?_) (fun hc77 => ?_)
                · try simp only [decide_eq_true_eq, decide_eq_false_iff_not, Bool.not_eq_true', Bool.not_eq_false', Bool.not_eq_eq_eq_not, Bool.not_true, Bool.not_false, Bool.and_eq_true, Bool.or_eq_true, Bool.or_eq_false_iff, beq_iff_eq, beq_eq_false_iff_ne, ne_eq, Int.not_lt, Int.not_le, Decidable.not_not] at hc77
                  refine g_region ?_
                  refine g_step rfl (s_val (v_assign rfl) rfl rfl ?_)
                  refine g_nil ?_
                  refine g_next hK22 ?_
                  refine g_draw (n := 7) (fun j => !([6] : List Nat).contains j) rfl rfl ?_
                  refine m_take 0 false rfl rfl (by kernel_rfl) (by kernel_rfl) (by kernel_rfl) (fun _ _ _ _ h => h) (v_move rfl) rfl rfl ?_
                  refine m_take 1 false rfl rfl (by kernel_rfl) (by kernel_rfl) (by kernel_rfl) (fun _ _ _ _ h => h) (v_move rfl) rfl rfl ?_
                  refine m_take 2 false rfl rfl (by kernel_rfl) (by kernel_rfl) (by kernel_rfl) (fun _ _ _ _ h => h) (v_indexAddr ty41 ty3 rfl rfl (by first | rfl | assumption) (by first | rfl | exact (rfl : (0 : Int) = ((0 : Nat) : Int)) | exact (Int.toNat_of_nonneg (by omega)).symm) (by first | assumption | exact map_get (by assumption) | rfl) rfl) rfl rfl ?_
                  refine m_take 3 true rfl rfl (by kernel_rfl) (by kernel_rfl) (by kernel_rfl) (fun _ _ _ _ h => h) (by first | exact v_load ty3 rfl rfl (by first | rfl | assumption) (by first | assumption | exact map_get (by assumption) | rfl) rfl | exact v_load_box ty3 rfl rfl (by assumption) rfl) rfl rfl ?_
                  refine m_take 4 true rfl rfl (by kernel_rfl) (by kernel_rfl) (by kernel_rfl) (fun _ _ _ _ h => h) (by first | exact v_loadl_all ty28 rfl rfl rfl rfl rfl | exact v_loadl_part (cs := [_, _, _, _, _, _, _]) ty28 rfl rfl rfl rfl rfl rfl) rfl rfl ?_
                  refine m_one 5 (by kernel_rfl) rfl rfl ?_
                  refine sm_callp rfl rfl rfl (hop18_ok g q _ hsq) ?_
                  rintro _ rfl
                  refine m_one 6 (by kernel_rfl) rfl rfl ?_
                  refine sm_any rfl (s_store_all ty28 rfl rfl rfl rfl rfl rfl ?_)
                  refine m_done (by kernel_rfl) ?_
                  refine g_block_normal ?_
                  refine g_next hK12 ?_
                  refine g_region ?_
                  refine g_step rfl (s_val (v_move rfl) rfl rfl ?_)
                  refine g_step rfl (s_val (v_add rfl rfl (by omega)) rfl rfl ?_)
                  refine g_step rfl (s_val (v_assign rfl) rfl rfl ?_)
                  refine g_nil ?_
                  first | refine g_keep [1, 6, 8, 9] [2, 5, 7] [2, 5, 7] (keep_cons rfl (keep_cons rfl (keep_cons rfl (keep_cons rfl keep_nil)))) (lkeep_cons rfl (lkeep_cons rfl (lkeep_cons rfl lkeep_nil))) (keep_cons rfl (keep_cons rfl (keep_cons rfl keep_nil))) rfl ?_ | refine g_keep [1, 6, 8, 9] [2, 5, 7] [2, 5, 7] rfl rfl rfl rfl ?_
                  first | (have hcx : csent g r = false := hc77; exact g_round _ (by omega) ⟨k + 1, false, (chop g q), by omega, rfl, rfl, rfl, rfl, rfl, ⟨by rw [sentAll_take hg, hc77, Bool.and_false], by rw [chops_take hg, hq]⟩⟩) | (have hcx : csent g r = true := hc77; exact g_round _ (by omega) ⟨k + 1, u, (chop g q), by omega, rfl, rfl, rfl, rfl, rfl, ⟨by rw [sentAll_take hg, hc77, Bool.and_true]; exact hu, by rw [chops_take hg, hq]⟩⟩)
                · try simp only [decide_eq_true_eq, decide_eq_false_iff_not, Bool.not_eq_true', Bool.not_eq_false', Bool.not_eq_eq_eq_not, Bool.not_true, Bool.not_false, Bool.and_eq_true, Bool.or_eq_true, Bool.or_eq_false_iff, beq_iff_eq, beq_eq_false_iff_ne, ne_eq, Int.not_lt, Int.not_le, Decidable.not_not] at hc77
                  refine g_skip ?_
                  refine g_next hK22 ?_
                  refine g_draw (n := 7) (fun j => !([6] : List Nat).contains j) rfl rfl ?_
                  refine m_take 0 false rfl rfl (by kernel_rfl) (by kernel_rfl) (by kernel_rfl) (fun _ _ _ _ h => h) (v_move rfl) rfl rfl ?_
                  refine m_take 1 false rfl rfl (by kernel_rfl) (by kernel_rfl) (by kernel_rfl) (fun _ _ _ _ h => h) (v_move rfl) rfl rfl ?_
                  refine m_take 2 false rfl rfl (by kernel_rfl) (by kernel_rfl) (by kernel_rfl) (fun _ _ _ _ h => h) (v_indexAddr ty41 ty3 rfl rfl (by first | rfl | assumption) (by first | rfl | exact (rfl : (0 : Int) = ((0 : Nat) : Int)) | exact (Int.toNat_of_nonneg (by omega)).symm) (by first | assumption | exact map_get (by assumption) | rfl) rfl) rfl rfl ?_
                  refine m_take 3 true rfl rfl (by kernel_rfl) (by kernel_rfl) (by kernel_rfl) (fun _ _ _ _ h => h) (by first | exact v_load ty3 rfl rfl (by first | rfl | assumption) (by first | assumption | exact map_get (by assumption) | rfl) rfl | exact v_load_box ty3 rfl rfl (by assumption) rfl) rfl rfl ?_
                  refine m_take 4 true rfl rfl (by kernel_rfl) (by kernel_rfl) (by kernel_rfl) (fun _ _ _ _ h => h) (by first | exact v_loadl_all ty28 rfl rfl rfl rfl rfl | exact v_loadl_part (cs := [_, _, _, _, _, _, _]) ty28 rfl rfl rfl rfl rfl rfl) rfl rfl ?_
                  refine m_one 5 (by kernel_rfl) rfl rfl ?_
                  refine sm_callp rfl rfl rfl (hop18_ok g q _ hsq) ?_
                  rintro _ rfl
                  refine m_one 6 (by kernel_rfl) rfl rfl ?_
                  refine sm_any rfl (s_store_all ty28 rfl rfl rfl rfl rfl rfl ?_)
                  refine m_done (by kernel_rfl) ?_
                  refine g_block_normal ?_
                  refine g_next hK12 ?_
                  refine g_region ?_
                  refine g_step rfl (s_val (v_move rfl) rfl rfl ?_)
                  refine g_step rfl (s_val (v_add rfl rfl (by omega)) rfl rfl ?_)
                  refine g_step rfl (s_val (v_assign rfl) rfl rfl ?_)
                  refine g_nil ?_
                  first | refine g_keep [1, 6, 8, 9] [2, 5, 7] [2, 5, 7] (keep_cons rfl (keep_cons rfl (keep_cons rfl (keep_cons rfl keep_nil)))) (lkeep_cons rfl (lkeep_cons rfl (lkeep_cons rfl lkeep_nil))) (keep_cons rfl (keep_cons rfl (keep_cons rfl keep_nil))) rfl ?_ | refine g_keep [1, 6, 8, 9] [2, 5, 7] [2, 5, 7] rfl rfl rfl rfl ?_
                  first | (have hcx : csent g r = false := hc77; exact g_round _ (by omega) ⟨k + 1, false, (chop g q), by omega, rfl, rfl, rfl, rfl, rfl, ⟨by rw [sentAll_take hg, hc77, Bool.and_false], by rw [chops_take hg, hq]⟩⟩) | (have hcx : csent g r = true := hc77; exact g_round _ (by omega) ⟨k + 1, u, (chop g q), by omega, rfl, rfl, rfl, rfl, rfl, ⟨by rw [sentAll_take hg, hc77, Bool.and_true]; exact hu, by rw [chops_take hg, hq]⟩⟩)
        · refine ⟨_, rfl, .inl ⟨rfl, ?_⟩⟩
          refine sm_alloc (av := (.agg [(.int .i64 0), (.int .i64 0), (.int .i64 0), (.int .i64 0), (.int .i64 0), (.bool false), .nil0])) ty28 rfl rfl rfl rfl ?_
          refine m_one 5 (by kernel_rfl) rfl rfl ?_
          refine sm_callp rfl rfl rfl (hop_ok g r _ hsr) ?_
          rintro _ rfl
          refine m_take 6 false rfl rfl (by kernel_rfl) (by kernel_rfl) (by kernel_rfl) (fun _ _ _ _ h => h) (v_move rfl) rfl rfl ?_
          refine m_take 7 false rfl rfl (by kernel_rfl) (by kernel_rfl) (by kernel_rfl) (fun _ _ _ _ h => h) (v_extract rfl rfl) rfl rfl ?_
          refine m_take 8 false rfl rfl (by kernel_rfl) (by kernel_rfl) (by kernel_rfl) (fun _ _ _ _ h => h) (v_extract rfl rfl) rfl rfl ?_
          refine m_one 10 (by kernel_rfl) rfl rfl ?_
          refine sm_any rfl (s_store_all ty28 rfl rfl rfl rfl rfl rfl ?_)
          refine m_take 11 false rfl rfl (by kernel_rfl) (by kernel_rfl) (by kernel_rfl) (fun _ _ _ _ h => h) (v_assign rfl) rfl rfl ?_
          refine m_done (by kernel_rfl) ?_
          refine g_next hK13 ?_
          refine g_seq (fun K24 hK24 => ?_)
          refine g_seq (fun K25 hK25 => ?_)
          refine g_draw (n := 32) (fun j => !([] : List Nat).contains j) rfl rfl ?_
          refine m_take 0 false rfl rfl (by kernel_rfl) (by kernel_rfl) (by kernel_rfl) (fun _ _ _ _ h => h) (v_move rfl) rfl rfl ?_
          refine m_take 1 false rfl rfl (by kernel_rfl) (by kernel_rfl) (by kernel_rfl) (fun _ _ _ _ h => h) (v_move rfl) rfl rfl ?_
          refine m_take 2 false rfl rfl (by kernel_rfl) (by kernel_rfl) (by kernel_rfl) (fun _ _ _ _ h => h) (v_move rfl) rfl rfl ?_
          refine m_take 3 false rfl rfl (by kernel_rfl) (by kernel_rfl) (by kernel_rfl) (fun _ _ _ _ h => h) (v_indexAddr ty41 ty3 rfl rfl (by first | rfl | assumption) (by first | rfl | exact (rfl : (0 : Int) = ((0 : Nat) : Int)) | exact (Int.toNat_of_nonneg (by omega)).symm) (by first | assumption | exact map_get (by assumption) | rfl) rfl) rfl rfl ?_
          refine m_take 4 true rfl rfl (by kernel_rfl) (by kernel_rfl) (by kernel_rfl) (fun _ _ _ _ h => h) (by first | exact v_load ty3 rfl rfl (by first | rfl | assumption) (by first | assumption | exact map_get (by assumption) | rfl) rfl | exact v_load_box ty3 rfl rfl (by assumption) rfl) rfl rfl ?_
          refine m_take 5 true rfl rfl (by kernel_rfl) (by kernel_rfl) (by kernel_rfl) (fun _ _ _ _ h => h) (by first | exact v_loadl_all ty28 rfl rfl rfl rfl rfl | exact v_loadl_part (cs := [_, _, _, _, _, _, _]) ty28 rfl rfl rfl rfl rfl rfl) rfl rfl ?_
          refine m_one 6 (by kernel_rfl) rfl rfl ?_
          refine sm_callp rfl rfl rfl (sent18_ok g r _) ?_
          rintro _ rfl
          refine m_take 7 false rfl rfl (by kernel_rfl) (by kernel_rfl) (by kernel_rfl) (fun _ _ _ _ h => h) (v_bool_neq ty4 rfl rfl) rfl rfl ?_
          refine m_take 8 false rfl rfl (by kernel_rfl) (by kernel_rfl) (by kernel_rfl) (fun _ _ _ _ h => h) (v_move rfl) rfl rfl ?_
          refine m_split 52 rfl (fun hg52 => ?_) (fun hg52 => ?_)
          · exfalso; (try simp only [decide_eq_true_eq, decide_eq_false_iff_not, Bool.not_eq_true', Bool.not_eq_false', Bool.not_eq_eq_eq_not, Bool.not_true, Bool.not_false, Bool.and_eq_true, Bool.or_eq_true, Bool.or_eq_false_iff, beq_iff_eq, beq_eq_false_iff_ne, ne_eq, Int.not_lt, Int.not_le, Decidable.not_not] at hg52); simp at hg52
          · try simp only [decide_eq_true_eq, decide_eq_false_iff_not, Bool.not_eq_true', Bool.not_eq_false', Bool.not_eq_eq_eq_not, Bool.not_true, Bool.not_false, Bool.and_eq_true, Bool.or_eq_true, Bool.or_eq_false_iff, beq_iff_eq, beq_eq_false_iff_ne, ne_eq, Int.not_lt, Int.not_le, Decidable.not_not] at hg52
            refine m_take_yes (j := 8) (t := 52) 9 false rfl rfl rfl rfl rfl (by kernel_rfl) (by kernel_rfl) (by kernel_rfl) (fun _ _ _ _ h => h) (v_move rfl) rfl rfl ?_
            refine m_take_yes (j := 8) (t := 52) 10 false rfl rfl rfl rfl rfl (by kernel_rfl) (by kernel_rfl) (by kernel_rfl) (fun _ _ _ _ h => h) (v_move rfl) rfl rfl ?_
            refine m_split 54 rfl (fun hg54 => ?_) (fun hg54 => ?_)
            · try simp only [decide_eq_true_eq, decide_eq_false_iff_not, Bool.not_eq_true', Bool.not_eq_false', Bool.not_eq_eq_eq_not, Bool.not_true, Bool.not_false, Bool.and_eq_true, Bool.or_eq_true, Bool.or_eq_false_iff, beq_iff_eq, beq_eq_false_iff_ne, ne_eq, Int.not_lt, Int.not_le, Decidable.not_not] at hg54
              refine m_take_yes (j := 10) (t := 54) 11 true rfl rfl rfl rfl rfl (by kernel_rfl) (by kernel_rfl) (by kernel_rfl) (fun _ _ _ _ h => h) (by first | exact v_loadl_all ty28 rfl rfl rfl rfl rfl | exact v_loadl_part (cs := [_, _, _, _, _, _, _]) ty28 rfl rfl rfl rfl rfl rfl) rfl rfl ?_
              refine m_take_yes (j := 10) (t := 54) 12 false rfl rfl rfl rfl rfl (by kernel_rfl) (by kernel_rfl) (by kernel_rfl) (fun _ _ _ _ h => h) (v_move rfl) rfl rfl ?_
              refine m_take_yes (j := 10) (t := 54) 13 false rfl rfl rfl rfl rfl (by kernel_rfl) (by kernel_rfl) (by kernel_rfl) (fun _ _ _ _ h => h) (v_move rfl) rfl rfl ?_
              refine m_take_yes (j := 10) (t := 54) 14 false rfl rfl rfl rfl rfl (by kernel_rfl) (by kernel_rfl) (by kernel_rfl) (fun _ _ _ _ h => h) (v_indexAddr ty41 ty3 rfl rfl (by first | rfl | assumption) (by first | rfl | exact (rfl : (0 : Int) = ((0 : Nat) : Int)) | exact (Int.toNat_of_nonneg (by omega)).symm) (by first | assumption | exact map_get (by assumption) | rfl) rfl) rfl rfl ?_
              refine m_take_yes (j := 10) (t := 54) 15 true rfl rfl rfl rfl rfl (by kernel_rfl) (by kernel_rfl) (by kernel_rfl) (fun _ _ _ _ h => h) (by first | exact v_load ty3 rfl rfl (by first | rfl | assumption) (by first | assumption | exact map_get (by assumption) | rfl) rfl | exact v_load_box ty3 rfl rfl (by assumption) rfl) rfl rfl ?_
              refine m_take_yes (j := 10) (t := 54) 16 true rfl rfl rfl rfl rfl (by kernel_rfl) (by kernel_rfl) (by kernel_rfl) (fun _ _ _ _ h => h) (by first | exact v_loadl_all ty28 rfl rfl rfl rfl rfl | exact v_loadl_part (cs := [_, _, _, _, _, _, _]) ty28 rfl rfl rfl rfl rfl rfl) rfl rfl ?_
              refine m_one_yes (j := 10) (t := 54) 17 (by kernel_rfl) rfl rfl rfl rfl rfl ?_
              refine sm_callp rfl rfl rfl (hop18_ok g r _ hsr) ?_
              rintro _ rfl
              refine m_one_yes (j := 10) (t := 54) 18 (by kernel_rfl) rfl rfl rfl rfl rfl ?_
              refine sm_callp rfl rfl rfl (alike_ok (if csent g r = true then chop g r else rzero) (chop g r) _ (hopz_small hsr)) ?_
              rintro _ rfl
              refine m_take_yes (j := 10) (t := 54) 19 false rfl rfl rfl rfl rfl (by kernel_rfl) (by kernel_rfl) (by kernel_rfl) (fun _ _ _ _ h => h) (v_not rfl) rfl rfl ?_
              refine m_take_yes (j := 8) (t := 52) 20 false rfl rfl rfl rfl rfl (by kernel_rfl) (by kernel_rfl) (by kernel_rfl) (fun _ _ _ _ h => h) (v_pick_t rfl rfl) rfl rfl ?_
              refine m_take 21 false rfl rfl (by kernel_rfl) (by kernel_rfl) (by kernel_rfl) (fun _ _ _ _ h => h) (v_pick_f rfl rfl) rfl rfl ?_
              refine m_take 22 false rfl rfl (by kernel_rfl) (by kernel_rfl) (by kernel_rfl) (fun _ _ _ _ h => h) (v_move rfl) rfl rfl ?_
              refine m_split 66 rfl (fun hg66 => ?_) (fun hg66 => ?_)
              · exfalso; (try simp only [decide_eq_true_eq, decide_eq_false_iff_not, Bool.not_eq_true', Bool.not_eq_false', Bool.not_eq_eq_eq_not, Bool.not_true, Bool.not_false, Bool.and_eq_true, Bool.or_eq_true, Bool.or_eq_false_iff, beq_iff_eq, beq_eq_false_iff_ne, ne_eq, Int.not_lt, Int.not_le, Decidable.not_not] at hg66); simp_all
              · try simp only [decide_eq_true_eq, decide_eq_false_iff_not, Bool.not_eq_true', Bool.not_eq_false', Bool.not_eq_eq_eq_not, Bool.not_true, Bool.not_false, Bool.and_eq_true, Bool.or_eq_true, Bool.or_eq_false_iff, beq_iff_eq, beq_eq_false_iff_ne, ne_eq, Int.not_lt, Int.not_le, Decidable.not_not] at hg66
                refine m_take_yes (j := 22) (t := 66) 23 false rfl rfl rfl rfl rfl (by kernel_rfl) (by kernel_rfl) (by kernel_rfl) (fun _ _ _ _ h => h) (v_move rfl) rfl rfl ?_
                refine m_take_yes (j := 22) (t := 66) 24 false rfl rfl rfl rfl rfl (by kernel_rfl) (by kernel_rfl) (by kernel_rfl) (fun _ _ _ _ h => h) (v_not rfl) rfl rfl ?_
                refine m_take_yes (j := 22) (t := 66) 25 false rfl rfl rfl rfl rfl (by kernel_rfl) (by kernel_rfl) (by kernel_rfl) (fun _ _ _ _ h => h) (v_move rfl) rfl rfl ?_
                refine m_split 69 rfl (fun hg69 => ?_) (fun hg69 => ?_)
                · try simp only [decide_eq_true_eq, decide_eq_false_iff_not, Bool.not_eq_true', Bool.not_eq_false', Bool.not_eq_eq_eq_not, Bool.not_true, Bool.not_false, Bool.and_eq_true, Bool.or_eq_true, Bool.or_eq_false_iff, beq_iff_eq, beq_eq_false_iff_ne, ne_eq, Int.not_lt, Int.not_le, Decidable.not_not] at hg69
                  refine m_take_yes (j := 25) (t := 69) 26 true rfl rfl rfl rfl rfl (by kernel_rfl) (by kernel_rfl) (by kernel_rfl) (fun _ _ _ _ h => h) (by first | exact v_loadl_all ty28 rfl rfl rfl rfl rfl | exact v_loadl_part (cs := [_, _, _, _, _, _, _]) ty28 rfl rfl rfl rfl rfl rfl) rfl rfl ?_
                  refine m_take_yes (j := 25) (t := 69) 27 false rfl rfl rfl rfl rfl (by kernel_rfl) (by kernel_rfl) (by kernel_rfl) (fun _ _ _ _ h => h) (v_sub (b := (encR rzero)) (v_build (vs := []) (zs := [(.int .i64 0), (.int .i64 0), (.int .i64 0), (.int .i64 0), (.int .i64 0), (.bool false), .nil0]) (cells := [_, _, _, _, _, _, _]) ty28 pl28 rfl rfl rfl) (ASub.of_wk rfl)) rfl rfl ?_
                  refine m_one_yes (j := 25) (t := 69) 28 (by kernel_rfl) rfl rfl rfl rfl rfl ?_
                  refine sm_callp rfl rfl rfl (alike_ok (if csent g r = true then chop g r else rzero) rzero _ (hopz_small hsr)) ?_
                  rintro _ rfl
                  refine m_take_yes (j := 25) (t := 69) 29 false rfl rfl rfl rfl rfl (by kernel_rfl) (by kernel_rfl) (by kernel_rfl) (fun _ _ _ _ h => h) (v_not rfl) rfl rfl ?_
                  refine m_take_yes (j := 22) (t := 66) 30 false rfl rfl rfl rfl rfl (by kernel_rfl) (by kernel_rfl) (by kernel_rfl) (fun _ _ _ _ h => h) (v_pick_t rfl rfl) rfl rfl ?_
                  refine m_take 31 false rfl rfl (by kernel_rfl) (by kernel_rfl) (by kernel_rfl) (fun _ _ _ _ h => h) (v_pick_f rfl rfl) rfl rfl ?_
                  refine m_done (by kernel_rfl) ?_
                  refine g_next hK25 ?_
                  first | refine g_keep [1, 6, 8, 9, 11, 75] [2, 5, 7] [2, 5, 7] (keep_cons rfl (keep_cons rfl (keep_cons rfl (keep_cons rfl (keep_cons rfl (keep_cons rfl keep_nil)))))) (lkeep_cons rfl (lkeep_cons rfl (lkeep_cons rfl lkeep_nil))) (keep_cons rfl (keep_cons rfl (keep_cons rfl keep_nil))) rfl ?_ | refine g_keep [1, 6, 8, 9, 11, 75] [2, 5, 7] [2, 5, 7] rfl rfl rfl rfl ?_
                  refine g_cond rfl (fun hc75 => ?_) (fun hc75 => ?_)
                  · exfalso; (try simp only [decide_eq_true_eq, decide_eq_false_iff_not, Bool.not_eq_true', Bool.not_eq_false', Bool.not_eq_eq_eq_not, Bool.not_true, Bool.not_false, Bool.and_eq_true, Bool.or_eq_true, Bool.or_eq_false_iff, beq_iff_eq, beq_eq_false_iff_ne, ne_eq, Int.not_lt, Int.not_le, Decidable.not_not] at hc75); simp_all
                  · try simp only [decide_eq_true_eq, decide_eq_false_iff_not, Bool.not_eq_true', Bool.not_eq_false', Bool.not_eq_eq_eq_not, Bool.not_true, Bool.not_false, Bool.and_eq_true, Bool.or_eq_true, Bool.or_eq_false_iff, beq_iff_eq, beq_eq_false_iff_ne, ne_eq, Int.not_lt, Int.not_le, Decidable.not_not] at hc75
                    refine g_skip ?_
                    refine g_next hK24 ?_
                    refine g_seq (fun K26 hK26 => ?_)
                    refine g_seq (fun K27 hK27 => ?_)
                    refine g_region ?_
                    refine g_step rfl (s_val (v_move rfl) rfl rfl ?_)
                    refine g_step rfl (s_val (v_not rfl) rfl rfl ?_)
                    refine g_nil ?_
                    refine g_next hK27 ?_
                    refine g_cond rfl (fun hc77 => ?_) (fun hc77 => ?_)
                    · try simp only [decide_eq_true_eq, decide_eq_false_iff_not, Bool.not_eq_true', Bool.not_eq_false', Bool.not_eq_eq_eq_not, Bool.not_true, Bool.not_false, Bool.and_eq_true, Bool.or_eq_true, Bool.or_eq_false_iff, beq_iff_eq, beq_eq_false_iff_ne, ne_eq, Int.not_lt, Int.not_le, Decidable.not_not] at hc77
                      refine g_region ?_
                      refine g_step rfl (s_val (v_assign rfl) rfl rfl ?_)
                      refine g_nil ?_
                      refine g_next hK26 ?_
                      refine g_draw (n := 7) (fun j => !([6] : List Nat).contains j) rfl rfl ?_
                      refine m_take 0 false rfl rfl (by kernel_rfl) (by kernel_rfl) (by kernel_rfl) (fun _ _ _ _ h => h) (v_move rfl) rfl rfl ?_
                      refine m_take 1 false rfl rfl (by kernel_rfl) (by kernel_rfl) (by kernel_rfl) (fun _ _ _ _ h => h) (v_move rfl) rfl rfl ?_
                      refine m_take 2 false rfl rfl (by kernel_rfl) (by kernel_rfl) (by kernel_rfl) (fun _ _ _ _ h => h) (v_indexAddr ty41 ty3 rfl rfl (by first | rfl | assumption) (by first | rfl | exact (rfl : (0 : Int) = ((0 : Nat) : Int)) | exact (Int.toNat_of_nonneg (by omega)).symm) (by first | assumption | exact map_get (by assumption) | rfl) rfl) rfl rfl ?_
                      refine m_take 3 true rfl rfl (by kernel_rfl) (by kernel_rfl) (by kernel_rfl) (fun _ _ _ _ h => h) (by first | exact v_load ty3 rfl rfl (by first | rfl | assumption) (by first | assumption | exact map_get (by assumption) | rfl) rfl | exact v_load_box ty3 rfl rfl (by assumption) rfl) rfl rfl ?_
                      refine m_take 4 true rfl rfl (by kernel_rfl) (by kernel_rfl) (by kernel_rfl) (fun _ _ _ _ h => h) (by first | exact v_loadl_all ty28 rfl rfl rfl rfl rfl | exact v_loadl_part (cs := [_, _, _, _, _, _, _]) ty28 rfl rfl rfl rfl rfl rfl) rfl rfl ?_
                      refine m_one 5 (by kernel_rfl) rfl rfl ?_
                      refine sm_callp rfl rfl rfl (hop18_ok g q _ hsq) ?_
                      rintro _ rfl
                      refine m_one 6 (by kernel_rfl) rfl rfl ?_
                      refine sm_any rfl (s_store_all ty28 rfl rfl rfl rfl rfl rfl ?_)
                      refine m_done (by kernel_rfl) ?_
                      refine g_block_normal ?_
                      refine g_next hK12 ?_
                      refine g_region ?_
                      refine g_step rfl (s_val (v_move rfl) rfl rfl ?_)
                      refine g_step rfl (s_val (v_add rfl rfl (by omega)) rfl rfl ?_)
                      refine g_step rfl (s_val (v_assign rfl) rfl rfl ?_)
                      refine g_nil ?_
                      first | refine g_keep [1, 6, 8, 9] [2, 5, 7] [2, 5, 7] (keep_cons rfl (keep_cons rfl (keep_cons rfl (keep_cons rfl keep_nil)))) (lkeep_cons rfl (lkeep_cons rfl (lkeep_cons rfl lkeep_nil))) (keep_cons rfl (keep_cons rfl (keep_cons rfl keep_nil))) rfl ?_ | refine g_keep [1, 6, 8, 9] [2, 5, 7] [2, 5, 7] rfl rfl rfl rfl ?_
                      first | (have hcx : csent g r = false := hc77; exact g_round _ (by omega) ⟨k + 1, false, (chop g q), by omega, rfl, rfl, rfl, rfl, rfl, ⟨by rw [sentAll_take hg, hc77, Bool.and_false], by rw [chops_take hg, hq]⟩⟩) | (have hcx : csent g r = true := hc77; exact g_round _ (by omega) ⟨k + 1, u, (chop g q), by omega, rfl, rfl, rfl, rfl, rfl, ⟨by rw [sentAll_take hg, hc77, Bool.and_true]; exact hu, by rw [chops_take hg, hq]⟩⟩)
                    · try simp only [decide_eq_true_eq, decide_eq_false_iff_not, Bool.not_eq_true', Bool.not_eq_false', Bool.not_eq_eq_eq_not, Bool.not_true, Bool.not_false, Bool.and_eq_true, Bool.or_eq_true, Bool.or_eq_false_iff, beq_iff_eq, beq_eq_false_iff_ne, ne_eq, Int.not_lt, Int.not_le, Decidable.not_not] at hc77
                      refine g_skip ?_
                      refine g_next hK26 ?_
                      refine g_draw (n := 7) (fun j => !([6] : List Nat).contains j) rfl rfl ?_
                      refine m_take 0 false rfl rfl (by kernel_rfl) (by kernel_rfl) (by kernel_rfl) (fun _ _ _ _ h => h) (v_move rfl) rfl rfl ?_
                      refine m_take 1 false rfl rfl (by kernel_rfl) (by kernel_rfl) (by kernel_rfl) (fun _ _ _ _ h => h) (v_move rfl) rfl rfl ?_
                      refine m_take 2 false rfl rfl (by kernel_rfl) (by kernel_rfl) (by kernel_rfl) (fun _ _ _ _ h => h) (v_indexAddr ty41 ty3 rfl rfl (by first | rfl | assumption) (by first | rfl | exact (rfl : (0 : Int) = ((0 : Nat) : Int)) | exact (Int.toNat_of_nonneg (by omega)).symm) (by first | assumption | exact map_get (by assumption) | rfl) rfl) rfl rfl ?_
                      refine m_take 3 true rfl rfl (by kernel_rfl) (by kernel_rfl) (by kernel_rfl) (fun _ _ _ _ h => h) (by first | exact v_load ty3 rfl rfl (by first | rfl | assumption) (by first | assumption | exact map_get (by assumption) | rfl) rfl | exact v_load_box ty3 rfl rfl (by assumption) rfl) rfl rfl ?_
                      refine m_take 4 true rfl rfl (by kernel_rfl) (by kernel_rfl) (by kernel_rfl) (fun _ _ _ _ h => h) (by first | exact v_loadl_all ty28 rfl rfl rfl rfl rfl | exact v_loadl_part (cs := [_, _, _, _, _, _, _]) ty28 rfl rfl rfl rfl rfl rfl) rfl rfl ?_
                      refine m_one 5 (by kernel_rfl) rfl rfl ?_
                      refine sm_callp rfl rfl rfl (hop18_ok g q _ hsq) ?_
                      rintro _ rfl
                      refine m_one 6 (by kernel_rfl) rfl rfl ?_
                      refine sm_any rfl (s_store_all ty28 rfl rfl rfl rfl rfl rfl ?_)
                      refine m_done (by kernel_rfl) ?_
                      refine g_block_normal ?_
                      refine g_next hK12 ?_
                      refine g_region ?_
                      refine g_step rfl (s_val (v_move rfl) rfl rfl ?_)
                      refine g_step rfl (s_val (v_add rfl rfl (by omega)) rfl rfl ?_)
                      refine g_step rfl (s_val (v_assign rfl) rfl rfl ?_)
                      refine g_nil ?_
                      first | refine g_keep [1, 6, 8, 9] [2, 5, 7] [2, 5, 7] (keep_cons rfl (keep_cons rfl (keep_cons rfl (keep_cons rfl keep_nil)))) (lkeep_cons rfl (lkeep_cons rfl (lkeep_cons rfl lkeep_nil))) (keep_cons rfl (keep_cons rfl (keep_cons rfl keep_nil))) rfl ?_ | refine g_keep [1, 6, 8, 9] [2, 5, 7] [2, 5, 7] rfl rfl rfl rfl ?_
                      first | (have hcx : csent g r = false := hc77; exact g_round _ (by omega) ⟨k + 1, false, (chop g q), by omega, rfl, rfl, rfl, rfl, rfl, ⟨by rw [sentAll_take hg, hc77, Bool.and_false], by rw [chops_take hg, hq]⟩⟩) | (have hcx : csent g r = true := hc77; exact g_round _ (by omega) ⟨k + 1, u, (chop g q), by omega, rfl, rfl, rfl, rfl, rfl, ⟨by rw [sentAll_take hg, hc77, Bool.and_true]; exact hu, by rw [chops_take hg, hq]⟩⟩)
                · try simp only [decide_eq_true_eq, decide_eq_false_iff_not, Bool.not_eq_true', Bool.not_eq_false', Bool.not_eq_eq_eq_not, Bool.not_true, Bool.not_false, Bool.and_eq_true, Bool.or_eq_true, Bool.or_eq_false_iff, beq_iff_eq, beq_eq_false_iff_ne, ne_eq, Int.not_lt, Int.not_le, Decidable.not_not] at hg69
                  refine m_take_no (j := 25) (t := 69) 26 rfl rfl rfl rfl rfl rfl (by kernel_rfl) (by kernel_rfl) (by kernel_rfl) (fun _ _ _ _ h => h) rfl rfl ?_
                  refine m_take_no (j := 25) (t := 69) 27 rfl rfl rfl rfl rfl rfl (by kernel_rfl) (by kernel_rfl) (by kernel_rfl) (fun _ _ _ _ h => h) rfl rfl ?_
                  refine m_take_no (j := 25) (t := 69) 28 rfl rfl rfl rfl rfl rfl (by kernel_rfl) (by kernel_rfl) (by kernel_rfl) (fun _ _ _ _ h => h) rfl rfl ?_
                  refine m_take_no (j := 25) (t := 69) 29 rfl rfl rfl rfl rfl rfl (by kernel_rfl) (by kernel_rfl) (by kernel_rfl) (fun _ _ _ _ h => h) rfl rfl ?_
                  refine m_take_yes (j := 22) (t := 66) 30 false rfl rfl rfl rfl rfl (by kernel_rfl) (by kernel_rfl) (by kernel_rfl) (fun _ _ _ _ h => h) (v_pick_f rfl rfl) rfl rfl ?_
                  refine m_take 31 false rfl rfl (by kernel_rfl) (by kernel_rfl) (by kernel_rfl) (fun _ _ _ _ h => h) (v_pick_f rfl rfl) rfl rfl ?_
                  refine m_done (by kernel_rfl) ?_
                  refine g_next hK25 ?_
                  first | refine g_keep [1, 6, 8, 9, 11, 75] [2, 5, 7] [2, 5, 7] (keep_cons rfl (keep_cons rfl (keep_cons rfl (keep_cons rfl (keep_cons rfl (keep_cons rfl keep_nil)))))) (lkeep_cons rfl (lkeep_cons rfl (lkeep_cons rfl lkeep_nil))) (keep_cons rfl (keep_cons rfl (keep_cons rfl keep_nil))) rfl ?_ | refine g_keep [1, 6, 8, 9, 11, 75] [2, 5, 7] [2, 5, 7] rfl rfl rfl rfl ?_
                  refine g_cond rfl (fun h => by cases h) (fun _ => ?_)
                  refine g_skip ?_
                  refine g_next hK24 ?_
                  refine g_seq (fun K28 hK28 => ?_)
                  refine g_seq (fun K29 hK29 => ?_)
                  refine g_region ?_
                  refine g_step rfl (s_val (v_move rfl) rfl rfl ?_)
                  refine g_step rfl (s_val (v_not rfl) rfl rfl ?_)
                  refine g_nil ?_
                  refine g_next hK29 ?_
                  refine g_cond rfl (fun hc77 => ?_) (fun hc77 => ?_)
                  · try simp only [decide_eq_true_eq, decide_eq_false_iff_not, Bool.not_eq_true', Bool.not_eq_false', Bool.not_eq_eq_eq_not, Bool.not_true, Bool.not_false, Bool.and_eq_true, Bool.or_eq_true, Bool.or_eq_false_iff, beq_iff_eq, beq_eq_false_iff_ne, ne_eq, Int.not_lt, Int.not_le, Decidable.not_not] at hc77
                    refine g_region ?_
                    refine g_step rfl (s_val (v_assign rfl) rfl rfl ?_)
                    refine g_nil ?_
                    refine g_next hK28 ?_
                    refine g_draw (n := 7) (fun j => !([6] : List Nat).contains j) rfl rfl ?_
                    refine m_take 0 false rfl rfl (by kernel_rfl) (by kernel_rfl) (by kernel_rfl) (fun _ _ _ _ h => h) (v_move rfl) rfl rfl ?_
                    refine m_take 1 false rfl rfl (by kernel_rfl) (by kernel_rfl) (by kernel_rfl) (fun _ _ _ _ h => h) (v_move rfl) rfl rfl ?_
                    refine m_take 2 false rfl rfl (by kernel_rfl) (by kernel_rfl) (by kernel_rfl) (fun _ _ _ _ h => h) (v_indexAddr ty41 ty3 rfl rfl (by first | rfl | assumption) (by first | rfl | exact (rfl : (0 : Int) = ((0 : Nat) : Int)) | exact (Int.toNat_of_nonneg (by omega)).symm) (by first | assumption | exact map_get (by assumption) | rfl) rfl) rfl rfl ?_
                    refine m_take 3 true rfl rfl (by kernel_rfl) (by kernel_rfl) (by kernel_rfl) (fun _ _ _ _ h => h) (by first | exact v_load ty3 rfl rfl (by first | rfl | assumption) (by first | assumption | exact map_get (by assumption) | rfl) rfl | exact v_load_box ty3 rfl rfl (by assumption) rfl) rfl rfl ?_
                    refine m_take 4 true rfl rfl (by kernel_rfl) (by kernel_rfl) (by kernel_rfl) (fun _ _ _ _ h => h) (by first | exact v_loadl_all ty28 rfl rfl rfl rfl rfl | exact v_loadl_part (cs := [_, _, _, _, _, _, _]) ty28 rfl rfl rfl rfl rfl rfl) rfl rfl ?_
                    refine m_one 5 (by kernel_rfl) rfl rfl ?_
                    refine sm_callp rfl rfl rfl (hop18_ok g q _ hsq) ?_
                    rintro _ rfl
                    refine m_one 6 (by kernel_rfl) rfl rfl ?_
                    refine sm_any rfl (s_store_all ty28 rfl rfl rfl rfl rfl rfl ?_)
                    refine m_done (by kernel_rfl) ?_
                    refine g_block_normal ?_
                    refine g_next hK12 ?_
                    refine g_region ?_
                    refine g_step rfl (s_val (v_move rfl) rfl rfl ?_)
                    refine g_step rfl (s_val (v_add rfl rfl (by omega)) rfl rfl ?_)
                    refine g_step rfl (s_val (v_assign rfl) rfl rfl ?_)
                    refine g_nil ?_
                    first | refine g_keep [1, 6, 8, 9] [2, 5, 7] [2, 5, 7] (keep_cons rfl (keep_cons rfl (keep_cons rfl (keep_cons rfl keep_nil)))) (lkeep_cons rfl (lkeep_cons rfl (lkeep_cons rfl lkeep_nil))) (keep_cons rfl (keep_cons rfl (keep_cons rfl keep_nil))) rfl ?_ | refine g_keep [1, 6, 8, 9] [2, 5, 7] [2, 5, 7] rfl rfl rfl rfl ?_
                    first | (have hcx : csent g r = false := hc77; exact g_round _ (by omega) ⟨k + 1, false, (chop g q), by omega, rfl, rfl, rfl, rfl, rfl, ⟨by rw [sentAll_take hg, hc77, Bool.and_false], by rw [chops_take hg, hq]⟩⟩) | (have hcx : csent g r = true := hc77; exact g_round _ (by omega) ⟨k + 1, u, (chop g q), by omega, rfl, rfl, rfl, rfl, rfl, ⟨by rw [sentAll_take hg, hc77, Bool.and_true]; exact hu, by rw [chops_take hg, hq]⟩⟩)
                  · try simp only [decide_eq_true_eq, decide_eq_false_iff_not, Bool.not_eq_true', Bool.not_eq_false', Bool.not_eq_eq_eq_not, Bool.not_true, Bool.not_false, Bool.and_eq_true, Bool.or_eq_true, Bool.or_eq_false_iff, beq_iff_eq, beq_eq_false_iff_ne, ne_eq, Int.not_lt, Int.not_le, Decidable.not_not] at hc77
                    refine g_skip ?_
                    refine g_next hK28 ?_
                    refine g_draw (n := 7) (fun j => !([6] : List Nat).contains j) rfl rfl ?_
                    refine m_take 0 false rfl rfl (by kernel_rfl) (by kernel_rfl) (by kernel_rfl) (fun _ _ _ _ h => h) (v_move rfl) rfl rfl ?_
                    refine m_take 1 false rfl rfl (by kernel_rfl) (by kernel_rfl) (by kernel_rfl) (fun _ _ _ _ h => h) (v_move rfl) rfl rfl ?_
                    refine m_take 2 false rfl rfl (by kernel_rfl) (by kernel_rfl) (by kernel_rfl) (fun _ _ _ _ h => h) (v_indexAddr ty41 ty3 rfl rfl (by first | rfl | assumption) (by first | rfl | exact (rfl : (0 : Int) = ((0 : Nat) : Int)) | exact (Int.toNat_of_nonneg (by omega)).symm) (by first | assumption | exact map_get (by assumption) | rfl) rfl) rfl rfl ?_
                    refine m_take 3 true rfl rfl (by kernel_rfl) (by kernel_rfl) (by kernel_rfl) (fun _ _ _ _ h => h) (by first | exact v_load ty3 rfl rfl (by first | rfl | assumption) (by first | assumption | exact map_get (by assumption) | rfl) rfl | exact v_load_box ty3 rfl rfl (by assumption) rfl) rfl rfl ?_
                    refine m_take 4 true rfl rfl (by kernel_rfl) (by kernel_rfl) (by kernel_rfl) (fun _ _ _ _ h => h) (by first | exact v_loadl_all ty28 rfl rfl rfl rfl rfl | exact v_loadl_part (cs := [_, _, _, _, _, _, _]) ty28 rfl rfl rfl rfl rfl rfl) rfl rfl ?_
                    refine m_one 5 (by kernel_rfl) rfl rfl ?_
                    refine sm_callp rfl rfl rfl (hop18_ok g q _ hsq) ?_
                    rintro _ rfl
                    refine m_one 6 (by kernel_rfl) rfl rfl ?_
                    refine sm_any rfl (s_store_all ty28 rfl rfl rfl rfl rfl rfl ?_)
                    refine m_done (by kernel_rfl) ?_
                    refine g_block_normal ?_
                    refine g_next hK12 ?_
                    refine g_region ?_
                    refine g_step rfl (s_val (v_move rfl) rfl rfl ?_)
                    refine g_step rfl (s_val (v_add rfl rfl (by omega)) rfl rfl ?_)
                    refine g_step rfl (s_val (v_assign rfl) rfl rfl ?_)
                    refine g_nil ?_
                    first | refine g_keep [1, 6, 8, 9] [2, 5, 7] [2, 5, 7] (keep_cons rfl (keep_cons rfl (keep_cons rfl (keep_cons rfl keep_nil)))) (lkeep_cons rfl (lkeep_cons rfl (lkeep_cons rfl lkeep_nil))) (keep_cons rfl (keep_cons rfl (keep_cons rfl keep_nil))) rfl ?_ | refine g_keep [1, 6, 8, 9] [2, 5, 7] [2, 5, 7] rfl rfl rfl rfl ?_
                    first | (have hcx : csent g r = false := hc77; exact g_round _ (by omega) ⟨k + 1, false, (chop g q), by omega, rfl, rfl, rfl, rfl, rfl, ⟨by rw [sentAll_take hg, hc77, Bool.and_false], by rw [chops_take hg, hq]⟩⟩) | (have hcx : csent g r = true := hc77; exact g_round _ (by omega) ⟨k + 1, u, (chop g q), by omega, rfl, rfl, rfl, rfl, rfl, ⟨by rw [sentAll_take hg, hc77, Bool.and_true]; exact hu, by rw [chops_take hg, hq]⟩⟩)
            · try simp only [decide_eq_true_eq, decide_eq_false_iff_not, Bool.not_eq_true', Bool.not_eq_false', Bool.not_eq_eq_eq_not, Bool.not_true, Bool.not_false, Bool.and_eq_true, Bool.or_eq_true, Bool.or_eq_false_iff, beq_iff_eq, beq_eq_false_iff_ne, ne_eq, Int.not_lt, Int.not_le, Decidable.not_not] at hg54
              refine m_take_no (j := 10) (t := 54) 11 rfl rfl rfl rfl rfl rfl (by kernel_rfl) (by kernel_rfl) (by kernel_rfl) (fun _ _ _ _ h => h) rfl rfl ?_
              refine m_take_no (j := 10) (t := 54) 12 rfl rfl rfl rfl rfl rfl (by kernel_rfl) (by kernel_rfl) (by kernel_rfl) (fun _ _ _ _ h => h) rfl rfl ?_
              refine m_take_no (j := 10) (t := 54) 13 rfl rfl rfl rfl rfl rfl (by kernel_rfl) (by kernel_rfl) (by kernel_rfl) (fun _ _ _ _ h => h) rfl rfl ?_
              refine m_take_no (j := 10) (t := 54) 14 rfl rfl rfl rfl rfl rfl (by kernel_rfl) (by kernel_rfl) (by kernel_rfl) (fun _ _ _ _ h => h) rfl rfl ?_
              refine m_take_no (j := 10) (t := 54) 15 rfl rfl rfl rfl rfl rfl (by kernel_rfl) (by kernel_rfl) (by kernel_rfl) (fun _ _ _ _ h => h) rfl rfl ?_
              refine m_take_no (j := 10) (t := 54) 16 rfl rfl rfl rfl rfl rfl (by kernel_rfl) (by kernel_rfl) (by kernel_rfl) (fun _ _ _ _ h => h) rfl rfl ?_
              refine m_take_no (j := 10) (t := 54) 17 rfl rfl rfl rfl rfl rfl (by kernel_rfl) (by kernel_rfl) (by kernel_rfl) (fun _ _ _ _ h => h) rfl rfl ?_
              refine m_take_no (j := 10) (t := 54) 18 rfl rfl rfl rfl rfl rfl (by kernel_rfl) (by kernel_rfl) (by kernel_rfl) (fun _ _ _ _ h => h) rfl rfl ?_
              refine m_take_no (j := 10) (t := 54) 19 rfl rfl rfl rfl rfl rfl (by kernel_rfl) (by kernel_rfl) (by kernel_rfl) (fun _ _ _ _ h => h) rfl rfl ?_
              refine m_take_yes (j := 8) (t := 52) 20 false rfl rfl rfl rfl rfl (by kernel_rfl) (by kernel_rfl) (by kernel_rfl) (fun _ _ _ _ h => h) (v_pick_f rfl rfl) rfl rfl ?_
              refine m_take 21 false rfl rfl (by kernel_rfl) (by kernel_rfl) (by kernel_rfl) (fun _ _ _ _ h => h) (v_pick_f rfl rfl) rfl rfl ?_
              refine m_take 22 false rfl rfl (by kernel_rfl) (by kernel_rfl) (by kernel_rfl) (fun _ _ _ _ h => h) (v_move rfl) rfl rfl ?_
              refine m_take_yes (j := 22) (t := 66) 23 false rfl rfl rfl rfl rfl (by kernel_rfl) (by kernel_rfl) (by kernel_rfl) (fun _ _ _ _ h => h) (v_move rfl) rfl rfl ?_
              refine m_take_yes (j := 22) (t := 66) 24 false rfl rfl rfl rfl rfl (by kernel_rfl) (by kernel_rfl) (by kernel_rfl) (fun _ _ _ _ h => h) (v_not rfl) rfl rfl ?_
              refine m_take_yes (j := 22) (t := 66) 25 false rfl rfl rfl rfl rfl (by kernel_rfl) (by kernel_rfl) (by kernel_rfl) (fun _ _ _ _ h => h) (v_move rfl) rfl rfl ?_
              refine m_split 69 rfl (fun hg69 => ?_) (fun hg69 => ?_)
              · try simp only [decide_eq_true_eq, decide_eq_false_iff_not, Bool.not_eq_true', Bool.not_eq_false', Bool.not_eq_eq_eq_not, Bool.not_true, Bool.not_false, Bool.and_eq_true, Bool.or_eq_true, Bool.or_eq_false_iff, beq_iff_eq, beq_eq_false_iff_ne, ne_eq, Int.not_lt, Int.not_le, Decidable.not_not] at hg69
                refine m_take_yes (j := 25) (t := 69) 26 true rfl rfl rfl rfl rfl (by kernel_rfl) (by kernel_rfl) (by kernel_rfl) (fun _ _ _ _ h => h) (by first | exact v_loadl_all ty28 rfl rfl rfl rfl rfl | exact v_loadl_part (cs := [_, _, _, _, _, _, _]) ty28 rfl rfl rfl rfl rfl rfl) rfl rfl ?_
                refine m_take_yes (j := 25) (t := 69) 27 false rfl rfl rfl rfl rfl (by kernel_rfl) (by kernel_rfl) (by kernel_rfl) (fun _ _ _ _ h => h) (v_sub (b := (encR rzero)) (v_build (vs := []) (zs := [(.int .i64 0), (.int .i64 0), (.int .i64 0), (.int .i64 0), (.int .i64 0), (.bool false), .nil0]) (cells := [_, _, _, _, _, _, _]) ty28 pl28 rfl rfl rfl) (ASub.of_wk rfl)) rfl rfl ?_
                refine m_one_yes (j := 25) (t := 69) 28 (by kernel_rfl) rfl rfl rfl rfl rfl ?_
                refine sm_callp rfl rfl rfl (alike_ok (if csent g r = true then chop g r else rzero) rzero _ (hopz_small hsr)) ?_
                rintro _ rfl
                refine m_take_yes (j := 25) (t := 69) 29 false rfl rfl rfl rfl rfl (by kernel_rfl) (by kernel_rfl) (by kernel_rfl) (fun _ _ _ _ h => h) (v_not rfl) rfl rfl ?_
                refine m_take_yes (j := 22) (t := 66) 30 false rfl rfl rfl rfl rfl (by kernel_rfl) (by kernel_rfl) (by kernel_rfl) (fun _ _ _ _ h => h) (v_pick_t rfl rfl) rfl rfl ?_
                refine m_take 31 false rfl rfl (by kernel_rfl) (by kernel_rfl) (by kernel_rfl) (fun _ _ _ _ h => h) (v_pick_f rfl rfl) rfl rfl ?_
                refine m_done (by kernel_rfl) ?_
                refine g_next hK25 ?_
                first | refine g_keep [1, 6, 8, 9, 11, 75] [2, 5, 7] [2, 5, 7] (keep_cons rfl (keep_cons rfl (keep_cons rfl (keep_cons rfl (keep_cons rfl (keep_cons rfl keep_nil)))))) (lkeep_cons rfl (lkeep_cons rfl (lkeep_cons rfl lkeep_nil))) (keep_cons rfl (keep_cons rfl (keep_cons rfl keep_nil))) rfl ?_ | refine g_keep [1, 6, 8, 9, 11, 75] [2, 5, 7] [2, 5, 7] rfl rfl rfl rfl ?_
                refine g_cond rfl (fun hc75 => ?_) (fun hc75 => ?_)
                · exfalso; (try simp only [decide_eq_true_eq, decide_eq_false_iff_not, Bool.not_eq_true', Bool.not_eq_false', Bool.not_eq_eq_eq_not, Bool.not_true, Bool.not_false, Bool.and_eq_true, Bool.or_eq_true, Bool.or_eq_false_iff, beq_iff_eq, beq_eq_false_iff_ne, ne_eq, Int.not_lt, Int.not_le, Decidable.not_not] at hc75); simp_all
                · try simp only [decide_eq_true_eq, decide_eq_false_iff_not, Bool.not_eq_true', Bool.not_eq_false', Bool.not_eq_eq_eq_not, Bool.not_true, Bool.not_false, Bool.and_eq_true, Bool.or_eq_true, Bool.or_eq_false_iff, beq_iff_eq, beq_eq_false_iff_ne, ne_eq, Int.not_lt, Int.not_le, Decidable.not_not] at hc75
                  refine g_skip ?_
                  refine g_next hK24 ?_
                  refine g_seq (fun K30 hK30 => ?_)
                  refine g_seq (fun K31 hK31 => ?_)
                  refine g_region ?_
                  refine g_step rfl (s_val (v_move rfl) rfl rfl ?_)
                  refine g_step rfl (s_val (v_not rfl) rfl rfl ?_)
                  refine g_nil ?_
                  refine g_next hK31 ?_
                  refine g_cond rfl (fun hc77 => ?_) (fun hc77 => ?_)
                  · try simp only [decide_eq_true_eq, decide_eq_false_iff_not, Bool.not_eq_true', Bool.not_eq_false', Bool.not_eq_eq_eq_not, Bool.not_true, Bool.not_false, Bool.and_eq_true, Bool.or_eq_true, Bool.or_eq_false_iff, beq_iff_eq, beq_eq_false_iff_ne, ne_eq, Int.not_lt, Int.not_le, Decidable.not_not] at hc77
                    refine g_region ?_
                    refine g_step rfl (s_val (v_assign rfl) rfl rfl ?_)
                    refine g_nil ?_
                    refine g_next hK30 ?_
                    refine g_draw (n := 7) (fun j => !([6] : List Nat).contains j) rfl rfl ?_
                    refine m_take 0 false rfl rfl (by kernel_rfl) (by kernel_rfl) (by kernel_rfl) (fun _ _ _ _ h => h) (v_move rfl) rfl rfl ?_
                    refine m_take 1 false rfl rfl (by kernel_rfl) (by kernel_rfl) (by kernel_rfl) (fun _ _ _ _ h => h) (v_move rfl) rfl rfl ?_
                    refine m_take 2 false rfl rfl (by kernel_rfl) (by kernel_rfl) (by kernel_rfl) (fun _ _ _ _ h => h) (v_indexAddr ty41 ty3 rfl rfl (by first | rfl | assumption) (by first | rfl | exact (rfl : (0 : Int) = ((0 : Nat) : Int)) | exact (Int.toNat_of_nonneg (by omega)).symm) (by first | assumption | exact map_get (by assumption) | rfl) rfl) rfl rfl ?_
                    refine m_take 3 true rfl rfl (by kernel_rfl) (by kernel_rfl) (by kernel_rfl) (fun _ _ _ _ h => h) (by first | exact v_load ty3 rfl rfl (by first | rfl | assumption) (by first | assumption | exact map_get (by assumption) | rfl) rfl | exact v_load_box ty3 rfl rfl (by assumption) rfl) rfl rfl ?_
                    refine m_take 4 true rfl rfl (by kernel_rfl) (by kernel_rfl) (by kernel_rfl) (fun _ _ _ _ h => h) (by first | exact v_loadl_all ty28 rfl rfl rfl rfl rfl | exact v_loadl_part (cs := [_, _, _, _, _, _, _]) ty28 rfl rfl rfl rfl rfl rfl) rfl rfl ?_
                    refine m_one 5 (by kernel_rfl) rfl rfl ?_
                    refine sm_callp rfl rfl rfl (hop18_ok g q _ hsq) ?_
                    rintro _ rfl
                    refine m_one 6 (by kernel_rfl) rfl rfl ?_
                    refine sm_any rfl (s_store_all ty28 rfl rfl rfl rfl rfl rfl ?_)
                    refine m_done (by kernel_rfl) ?_
                    refine g_block_normal ?_
                    refine g_next hK12 ?_
                    refine g_region ?_
                    refine g_step rfl (s_val (v_move rfl) rfl rfl ?_)
                    refine g_step rfl (s_val (v_add rfl rfl (by omega)) rfl rfl ?_)
                    refine g_step rfl (s_val (v_assign rfl) rfl rfl ?_)
                    refine g_nil ?_
                    first | refine g_keep [1, 6, 8, 9] [2, 5, 7] [2, 5, 7] (keep_cons rfl (keep_cons rfl (keep_cons rfl (keep_cons rfl keep_nil)))) (lkeep_cons rfl (lkeep_cons rfl (lkeep_cons rfl lkeep_nil))) (keep_cons rfl (keep_cons rfl (keep_cons rfl keep_nil))) rfl ?_ | refine g_keep [1, 6, 8, 9] [2, 5, 7] [2, 5, 7] rfl rfl rfl rfl ?_
                    first | (have hcx : csent g r = false := hc77; exact g_round _ (by omega) ⟨k + 1, false, (chop g q), by omega, rfl, rfl, rfl, rfl, rfl, ⟨by rw [sentAll_take hg, hc77, Bool.and_false], by rw [chops_take hg, hq]⟩⟩) | (have hcx : csent g r = true := hc77; exact g_round _ (by omega) ⟨k + 1, u, (chop g q), by omega, rfl, rfl, rfl, rfl, rfl, ⟨by rw [sentAll_take hg, hc77, Bool.and_true]; exact hu, by rw [chops_take hg, hq]⟩⟩)
                  · try simp only [decide_eq_true_eq, decide_eq_false_iff_not, Bool.not_eq_true', Bool.not_eq_false', Bool.not_eq_eq_eq_not, Bool.not_true, Bool.not_false, Bool.and_eq_true, Bool.or_eq_true, Bool.or_eq_false_iff, beq_iff_eq, beq_eq_false_iff_ne, ne_eq, Int.not_lt, Int.not_le, Decidable.not_not] at hc77
                    refine g_skip ?_
                    refine g_next hK30 ?_
                    refine g_draw (n := 7) (fun j => !([6] : List Nat).contains j) rfl rfl ?_
                    refine m_take 0 false rfl rfl (by kernel_rfl) (by kernel_rfl) (by kernel_rfl) (fun _ _ _ _ h => h) (v_move rfl) rfl rfl ?_
                    refine m_take 1 false rfl rfl (by kernel_rfl) (by kernel_rfl) (by kernel_rfl) (fun _ _ _ _ h => h) (v_move rfl) rfl rfl ?_
                    refine m_take 2 false rfl rfl (by kernel_rfl) (by kernel_rfl) (by kernel_rfl) (fun _ _ _ _ h => h) (v_indexAddr ty41 ty3 rfl rfl (by first | rfl | assumption) (by first | rfl | exact (rfl : (0 : Int) = ((0 : Nat) : Int)) | exact (Int.toNat_of_nonneg (by omega)).symm) (by first | assumption | exact map_get (by assumption) | rfl) rfl) rfl rfl ?_
                    refine m_take 3 true rfl rfl (by kernel_rfl) (by kernel_rfl) (by kernel_rfl) (fun _ _ _ _ h => h) (by first | exact v_load ty3 rfl rfl (by first | rfl | assumption) (by first | assumption | exact map_get (by assumption) | rfl) rfl | exact v_load_box ty3 rfl rfl (by assumption) rfl) rfl rfl ?_
                    refine m_take 4 true rfl rfl (by kernel_rfl) (by kernel_rfl) (by kernel_rfl) (fun _ _ _ _ h => h) (by first | exact v_loadl_all ty28 rfl rfl rfl rfl rfl | exact v_loadl_part (cs := [_, _, _, _, _, _, _]) ty28 rfl rfl rfl rfl rfl rfl) rfl rfl ?_
                    refine m_one 5 (by kernel_rfl) rfl rfl ?_
                    refine sm_callp rfl rfl rfl (hop18_ok g q _ hsq) ?_
                    rintro _ rfl
                    refine m_one 6 (by kernel_rfl) rfl rfl ?_
                    refine sm_any rfl (s_store_all ty28 rfl rfl rfl rfl rfl rfl ?_)
                    refine m_done (by kernel_rfl) ?_
                    refine g_block_normal ?_
                    refine g_next hK12 ?_
                    refine g_region ?_
                    refine g_step rfl (s_val (v_move rfl) rfl rfl ?_)
                    refine g_step rfl (s_val (v_add rfl rfl (by omega)) rfl rfl ?_)
                    refine g_step rfl (s_val (v_assign rfl) rfl rfl ?_)
                    refine g_nil ?_
                    first | refine g_keep [1, 6, 8, 9] [2, 5, 7] [2, 5, 7] (keep_cons rfl (keep_cons rfl (keep_cons rfl (keep_cons rfl keep_nil)))) (lkeep_cons rfl (lkeep_cons rfl (lkeep_cons rfl lkeep_nil))) (keep_cons rfl (keep_cons rfl (keep_cons rfl keep_nil))) rfl ?_ | refine g_keep [1, 6, 8, 9] [2, 5, 7] [2, 5, 7] rfl rfl rfl rfl ?_
                    first | (have hcx : csent g r = false := hc77; exact g_round _ (by omega) ⟨k + 1, false, (chop g q), by omega, rfl, rfl, rfl, rfl, rfl, ⟨by rw [sentAll_take hg, hc77, Bool.and_false], by rw [chops_take hg, hq]⟩⟩) | (have hcx : csent g r = true := hc77; exact g_round _ (by omega) ⟨k + 1, u, (chop g q), by omega, rfl, rfl, rfl, rfl, rfl, ⟨by rw [sentAll_take hg, hc77, Bool.and_true]; exact hu, by rw [chops_take hg, hq]⟩⟩)
              · try simp only [decide_eq_true_eq, decide_eq_false_iff_not, Bool.not_eq_true', Bool.not_eq_false', Bool.not_eq_eq_eq_not, Bool.not_true, Bool.not_false, Bool.and_eq_true, Bool.or_eq_true, Bool.or_eq_false_iff, beq_iff_eq, beq_eq_false_iff_ne, ne_eq, Int.not_lt, Int.not_le, Decidable.not_not] at hg69
                refine m_take_no (j := 25) (t := 69) 26 rfl rfl rfl rfl rfl rfl (by kernel_rfl) (by kernel_rfl) (by kernel_rfl) (fun _ _ _ _ h => h) rfl rfl ?_
                refine m_take_no (j := 25) (t := 69) 27 rfl rfl rfl rfl rfl rfl (by kernel_rfl) (by kernel_rfl) (by kernel_rfl) (fun _ _ _ _ h => h) rfl rfl ?_
                refine m_take_no (j := 25) (t := 69) 28 rfl rfl rfl rfl rfl rfl (by kernel_rfl) (by kernel_rfl) (by kernel_rfl) (fun _ _ _ _ h => h) rfl rfl ?_
                refine m_take_no (j := 25) (t := 69) 29 rfl rfl rfl rfl rfl rfl (by kernel_rfl) (by kernel_rfl) (by kernel_rfl) (fun _ _ _ _ h => h) rfl rfl ?_
                refine m_take_yes (j := 22) (t := 66) 30 false rfl rfl rfl rfl rfl (by kernel_rfl) (by kernel_rfl) (by kernel_rfl) (fun _ _ _ _ h => h) (v_pick_f rfl rfl) rfl rfl ?_
                refine m_take 31 false rfl rfl (by kernel_rfl) (by kernel_rfl) (by kernel_rfl) (fun _ _ _ _ h => h) (v_pick_f rfl rfl) rfl rfl ?_
                refine m_done (by kernel_rfl) ?_
                refine g_next hK25 ?_
                first | refine g_keep [1, 6, 8, 9, 11, 75] [2, 5, 7] [2, 5, 7] (keep_cons rfl (keep_cons rfl (keep_cons rfl (keep_cons rfl (keep_cons rfl (keep_cons rfl keep_nil)))))) (lkeep_cons rfl (lkeep_cons rfl (lkeep_cons rfl lkeep_nil))) (keep_cons rfl (keep_cons rfl (keep_cons rfl keep_nil))) rfl ?_ | refine g_keep [1, 6, 8, 9, 11, 75] [2, 5, 7] [2, 5, 7] rfl rfl rfl rfl ?_
                refine g_cond rfl (fun h => by cases h) (fun _ => ?_)
                refine g_skip ?_
                refine g_next hK24 ?_
                refine g_seq (fun K32 hK32 => ?_)
                refine g_seq (fun K33 hK33 => ?_)
                refine g_region ?_
                refine g_step rfl (s_val (v_move rfl) rfl rfl ?_)
                refine g_step rfl (s_val (v_not rfl) rfl rfl ?_)
                refine g_nil ?_
                refine g_next hK33 ?_
                refine g_cond rfl (fun hc77 => ?_) (fun hc77 => ?_)
                · try simp only [decide_eq_true_eq, decide_eq_false_iff_not, Bool.not_eq_true', Bool.not_eq_false', Bool.not_eq_eq_eq_not, Bool.not_true, Bool.not_false, Bool.and_eq_true, Bool.or_eq_true, Bool.or_eq_false_iff, beq_iff_eq, beq_eq_false_iff_ne, ne_eq, Int.not_lt, Int.not_le, Decidable.not_not] at hc77
                  refine g_region ?_
                  refine g_step rfl (s_val (v_assign rfl) rfl rfl ?_)
                  refine g_nil ?_
                  refine g_next hK32 ?_
                  refine g_draw (n := 7) (fun j => !([6] : List Nat).contains j) rfl rfl ?_
                  refine m_take 0 false rfl rfl (by kernel_rfl) (by kernel_rfl) (by kernel_rfl) (fun _ _ _ _ h => h) (v_move rfl) rfl rfl ?_
                  refine m_take 1 false rfl rfl (by kernel_rfl) (by kernel_rfl) (by kernel_rfl) (fun _ _ _ _ h => h) (v_move rfl) rfl rfl ?_
                  refine m_take 2 false rfl rfl (by kernel_rfl) (by kernel_rfl) (by kernel_rfl) (fun _ _ _ _ h => h) (v_indexAddr ty41 ty3 rfl rfl (by first | rfl | assumption) (by first | rfl | exact (rfl : (0 : Int) = ((0 : Nat) : Int)) | exact (Int.toNat_of_nonneg (by omega)).symm) (by first | assumption | exact map_get (by assumption) | rfl) rfl) rfl rfl ?_
                  refine m_take 3 true rfl rfl (by kernel_rfl) (by kernel_rfl) (by kernel_rfl) (fun _ _ _ _ h => h) (by first | exact v_load ty3 rfl rfl (by first | rfl | assumption) (by first | assumption | exact map_get (by assumption) | rfl) rfl | exact v_load_box ty3 rfl rfl (by assumption) rfl) rfl rfl ?_
                  refine m_take 4 true rfl rfl (by kernel_rfl) (by kernel_rfl) (by kernel_rfl) (fun _ _ _ _ h => h) (by first | exact v_loadl_all ty28 rfl rfl rfl rfl rfl | exact v_loadl_part (cs := [_, _, _, _, _, _, _]) ty28 rfl rfl rfl rfl rfl rfl) rfl rfl ?_
                  refine m_one 5 (by kernel_rfl) rfl rfl ?_
                  refine sm_callp rfl rfl rfl (hop18_ok g q _ hsq) ?_
                  rintro _ rfl
                  refine m_one 6 (by kernel_rfl) rfl rfl ?_
                  refine sm_any rfl (s_store_all ty28 rfl rfl rfl rfl rfl rfl ?_)
                  refine m_done (by kernel_rfl) ?_
                  refine g_block_normal ?_
                  refine g_next hK12 ?_
                  refine g_region ?_
                  refine g_step rfl (s_val (v_move rfl) rfl rfl ?_)
                  refine g_step rfl (s_val (v_add rfl rfl (by omega)) rfl rfl ?_)
                  refine g_step rfl (s_val (v_assign rfl) rfl rfl ?_)
                  refine g_nil ?_
                  first | refine g_keep [1, 6, 8, 9] [2, 5, 7] [2, 5, 7] (keep_cons rfl (keep_cons rfl (keep_cons rfl (keep_cons rfl keep_nil)))) (lkeep_cons rfl (lkeep_cons rfl (lkeep_cons rfl lkeep_nil))) (keep_cons rfl (keep_cons rfl (keep_cons rfl keep_nil))) rfl ?_ | refine g_keep [1, 6, 8, 9] [2, 5, 7] [2, 5, 7] rfl rfl rfl rfl ?_
                  first | (have hcx : csent g r = false := hc77; exact g_round _ (by omega) ⟨k + 1, false, (chop g q), by omega, rfl, rfl, rfl, rfl, rfl, ⟨by rw [sentAll_take hg, hc77, Bool.and_false], by rw [chops_take hg, hq]⟩⟩) | (have hcx : csent g r = true := hc77; exact g_round _ (by omega) ⟨k + 1, u, (chop g q), by omega, rfl, rfl, rfl, rfl, rfl, ⟨by rw [sentAll_take hg, hc77, Bool.and_true]; exact hu, by rw [chops_take hg, hq]⟩⟩)
                · try simp only [decide_eq_true_eq, decide_eq_false_iff_not, Bool.not_eq_true', Bool.not_eq_false', Bool.not_eq_eq_eq_not, Bool.not_true, Bool.not_false, Bool.and_eq_true, Bool.or_eq_true, Bool.or_eq_false_iff, beq_iff_eq, beq_eq_false_iff_ne, ne_eq, Int.not_lt, Int.not_le, Decidable.not_not] at hc77
                  refine g_skip ?_
                  refine g_next hK32 ?_
                  refine g_draw (n := 7) (fun j => !([6] : List Nat).contains j) rfl rfl ?_
                  refine m_take 0 false rfl rfl (by kernel_rfl) (by kernel_rfl) (by kernel_rfl) (fun _ _ _ _ h => h) (v_move rfl) rfl rfl ?_
                  refine m_take 1 false rfl rfl (by kernel_rfl) (by kernel_rfl) (by kernel_rfl) (fun _ _ _ _ h => h) (v_move rfl) rfl rfl ?_
                  refine m_take 2 false rfl rfl (by kernel_rfl) (by kernel_rfl) (by kernel_rfl) (fun _ _ _ _ h => h) (v_indexAddr ty41 ty3 rfl rfl (by first | rfl | assumption) (by first | rfl | exact (rfl : (0 : Int) = ((0 : Nat) : Int)) | exact (Int.toNat_of_nonneg (by omega)).symm) (by first | assumption | exact map_get (by assumption) | rfl) rfl) rfl rfl ?_
                  refine m_take 3 true rfl rfl (by kernel_rfl) (by kernel_rfl) (by kernel_rfl) (fun _ _ _ _ h => h) (by first | exact v_load ty3 rfl rfl (by first | rfl | assumption) (by first | assumption | exact map_get (by assumption) | rfl) rfl | exact v_load_box ty3 rfl rfl (by assumption) rfl) rfl rfl ?_
                  refine m_take 4 true rfl rfl (by kernel_rfl) (by kernel_rfl) (by kernel_rfl) (fun _ _ _ _ h => h) (by first | exact v_loadl_all ty28 rfl rfl rfl rfl rfl | exact v_loadl_part (cs := [_, _, _, _, _, _, _]) ty28 rfl rfl rfl rfl rfl rfl) rfl rfl ?_
                  refine m_one 5 (by kernel_rfl) rfl rfl ?_
                  refine sm_callp rfl rfl rfl (hop18_ok g q _ hsq) ?_
                  rintro _ rfl
                  refine m_one 6 (by kernel_rfl) rfl rfl ?_
                  refine sm_any rfl (s_store_all ty28 rfl rfl rfl rfl rfl rfl ?_)
                  refine m_done (by kernel_rfl) ?_
                  refine g_block_normal ?_
                  refine g_next hK12 ?_
                  refine g_region ?_
                  refine g_step rfl (s_val (v_move rfl) rfl rfl ?_)
                  refine g_step rfl (s_val (v_add rfl rfl (by omega)) rfl rfl ?_)
                  refine g_step rfl (s_val (v_assign rfl) rfl rfl ?_)
                  refine g_nil ?_
                  first | refine g_keep [1, 6, 8, 9] [2, 5, 7] [2, 5, 7] (keep_cons rfl (keep_cons rfl (keep_cons rfl (keep_cons rfl keep_nil)))) (lkeep_cons rfl (lkeep_cons rfl (lkeep_cons rfl lkeep_nil))) (keep_cons rfl (keep_cons rfl (keep_cons rfl keep_nil))) rfl ?_ | refine g_keep [1, 6, 8, 9] [2, 5, 7] [2, 5, 7] rfl rfl rfl rfl ?_
                  first | (have hcx : csent g r = false := hc77; exact g_round _ (by omega) ⟨k + 1, false, (chop g q), by omega, rfl, rfl, rfl, rfl, rfl, ⟨by rw [sentAll_take hg, hc77, Bool.and_false], by rw [chops_take hg, hq]⟩⟩) | (have hcx : csent g r = true := hc77; exact g_round _ (by omega) ⟨k + 1, u, (chop g q), by omega, rfl, rfl, rfl, rfl, rfl, ⟨by rw [sentAll_take hg, hc77, Bool.and_true]; exact hu, by rw [chops_take hg, hq]⟩⟩)
      · try simp only [decide_eq_true_eq, decide_eq_false_iff_not, Bool.not_eq_true', Bool.not_eq_false', Bool.not_eq_eq_eq_not, Bool.not_true, Bool.not_false, Bool.and_eq_true, Bool.or_eq_true, Bool.or_eq_false_iff, beq_iff_eq, beq_eq_false_iff_ne, ne_eq, Int.not_lt, Int.not_le, Decidable.not_not] at hc32
        obtain rfl : k = l.length := by omega
        rw [List.take_length] at hu hq
        have hce := cpath_eq l r
        rw [← hu, ← hq] at hce
        refine g_exit ?_
        refine g_then_exit ?_
        refine g_then_exit ?_
        refine g_block_same ?_
        refine g_next hK8 ?_
        refine g_seq (fun K34 hK34 => ?_)
        refine g_seq (fun K35 hK35 => ?_)
        refine g_region ?_
        refine g_step rfl (s_val (v_move rfl) rfl rfl ?_)
        refine g_step rfl (s_val (v_not rfl) rfl rfl ?_)
        refine g_nil ?_
        refine g_next hK35 ?_
        refine g_cond rfl (fun hc85 => ?_) (fun hc85 => ?_)
        · try simp only [decide_eq_true_eq, decide_eq_false_iff_not, Bool.not_eq_true', Bool.not_eq_false', Bool.not_eq_eq_eq_not, Bool.not_true, Bool.not_false, Bool.and_eq_true, Bool.or_eq_true, Bool.or_eq_false_iff, beq_iff_eq, beq_eq_false_iff_ne, ne_eq, Int.not_lt, Int.not_le, Decidable.not_not] at hc85
          refine g_seq (fun K36 hK36 => ?_)
          refine g_region ?_
          refine g_step rfl (s_val (v_move rfl) rfl rfl ?_)
          refine g_step rfl (s_val (v_not rfl) rfl rfl ?_)
          refine g_step rfl (s_val (v_move rfl) rfl rfl ?_)
          refine g_split 88 rfl (fun hg88 => ?_) (fun hg88 => ?_)
          · try simp only [decide_eq_true_eq, decide_eq_false_iff_not, Bool.not_eq_true', Bool.not_eq_false', Bool.not_eq_eq_eq_not, Bool.not_true, Bool.not_false, Bool.and_eq_true, Bool.or_eq_true, Bool.or_eq_false_iff, beq_iff_eq, beq_eq_false_iff_ne, ne_eq, Int.not_lt, Int.not_le, Decidable.not_not] at hg88
            refine g_step_yes (j := 2) (t := 88) rfl rfl rfl rfl (s_val (by first | exact v_loadl_all ty28 rfl rfl rfl rfl rfl | exact v_loadl_part (cs := [_, _, _, _, _, _, _]) ty28 rfl rfl rfl rfl rfl rfl) rfl rfl ?_)
            refine g_step_yes (j := 2) (t := 88) rfl rfl rfl rfl (s_val (v_sub (b := (encR rzero)) (v_build (vs := []) (zs := [(.int .i64 0), (.int .i64 0), (.int .i64 0), (.int .i64 0), (.int .i64 0), (.bool false), .nil0]) (cells := [_, _, _, _, _, _, _]) ty28 pl28 rfl rfl rfl) (ASub.of_wk rfl)) rfl rfl ?_)
            refine g_step_yes (j := 2) (t := 88) rfl rfl rfl rfl (s_callp rfl rfl rfl (alike_ok (cpath r l).1 rzero _ (cpath_small hsr)) ?_)
            rintro _ rfl
            refine g_step rfl (s_val (v_pick_t rfl rfl) rfl rfl ?_)
            refine g_step rfl (s_val (v_move rfl) rfl rfl ?_)
            refine g_split 93 rfl (fun hg93 => ?_) (fun hg93 => ?_)
            · try simp only [decide_eq_true_eq, decide_eq_false_iff_not, Bool.not_eq_true', Bool.not_eq_false', Bool.not_eq_eq_eq_not, Bool.not_true, Bool.not_false, Bool.and_eq_true, Bool.or_eq_true, Bool.or_eq_false_iff, beq_iff_eq, beq_eq_false_iff_ne, ne_eq, Int.not_lt, Int.not_le, Decidable.not_not] at hg93
              refine g_step_yes (j := 7) (t := 93) rfl rfl rfl rfl (s_callp rfl rfl rfl (awake18_ok _) ?_)
              rintro _ rfl
              refine g_step rfl (s_val (v_pick_t rfl rfl) rfl rfl ?_)
              refine g_step rfl (s_val (v_assign rfl) rfl rfl ?_)
              refine g_nil ?_
              refine g_next hK36 ?_
              refine g_ret ?_
              refine g_then_ret ?_
              refine g_end1 (.inl rfl) Try.results5 (.tmp rfl) [] (ASub.refl _) (AHeap.sub_refl _) (fun p hp => by cases hp) ⟨rfl, ?_⟩
              rfl
            · exfalso; (try simp only [decide_eq_true_eq, decide_eq_false_iff_not, Bool.not_eq_true', Bool.not_eq_false', Bool.not_eq_eq_eq_not, Bool.not_true, Bool.not_false, Bool.and_eq_true, Bool.or_eq_true, Bool.or_eq_false_iff, beq_iff_eq, beq_eq_false_iff_ne, ne_eq, Int.not_lt, Int.not_le, Decidable.not_not] at hg93); simp [hce, hc85] at hg93
          · exfalso; (try simp only [decide_eq_true_eq, decide_eq_false_iff_not, Bool.not_eq_true', Bool.not_eq_false', Bool.not_eq_eq_eq_not, Bool.not_true, Bool.not_false, Bool.and_eq_true, Bool.or_eq_true, Bool.or_eq_false_iff, beq_iff_eq, beq_eq_false_iff_ne, ne_eq, Int.not_lt, Int.not_le, Decidable.not_not] at hg88); simp [hce, hc85] at hg88
        · try simp only [decide_eq_true_eq, decide_eq_false_iff_not, Bool.not_eq_true', Bool.not_eq_false', Bool.not_eq_eq_eq_not, Bool.not_true, Bool.not_false, Bool.and_eq_true, Bool.or_eq_true, Bool.or_eq_false_iff, beq_iff_eq, beq_eq_false_iff_ne, ne_eq, Int.not_lt, Int.not_le, Decidable.not_not] at hc85
          refine g_skip ?_
          refine g_next hK34 ?_
          refine g_seq (fun K37 hK37 => ?_)
          refine g_region ?_
          refine g_step rfl (s_val (v_move rfl) rfl rfl ?_)
          refine g_step rfl (s_val (v_move rfl) rfl rfl ?_)
          refine g_split 97 rfl (fun hg97 => ?_) (fun hg97 => ?_)
          · try simp only [decide_eq_true_eq, decide_eq_false_iff_not, Bool.not_eq_true', Bool.not_eq_false', Bool.not_eq_eq_eq_not, Bool.not_true, Bool.not_false, Bool.and_eq_true, Bool.or_eq_true, Bool.or_eq_false_iff, beq_iff_eq, beq_eq_false_iff_ne, ne_eq, Int.not_lt, Int.not_le, Decidable.not_not] at hg97
            refine g_step_yes (j := 1) (t := 97) rfl rfl rfl rfl (s_val (by first | exact v_loadl_all ty28 rfl rfl rfl rfl rfl | exact v_loadl_part (cs := [_, _, _, _, _, _, _]) ty28 rfl rfl rfl rfl rfl rfl) rfl rfl ?_)
            refine g_step_yes (j := 1) (t := 97) rfl rfl rfl rfl (s_val (by first | exact v_loadl_all ty28 rfl rfl rfl rfl rfl | exact v_loadl_part (cs := [_, _, _, _, _, _, _]) ty28 rfl rfl rfl rfl rfl rfl) rfl rfl ?_)
            refine g_step_yes (j := 1) (t := 97) rfl rfl rfl rfl (s_callp rfl rfl rfl (alike_ok (cpath r l).1 q _ (cpath_small hsr)) ?_)
            rintro _ rfl
            refine g_step rfl (s_val (v_pick_t rfl rfl) rfl rfl ?_)
            refine g_step rfl (s_val (v_move rfl) rfl rfl ?_)
            refine g_split 102 rfl (fun hg102 => ?_) (fun hg102 => ?_)
            · try simp only [decide_eq_true_eq, decide_eq_false_iff_not, Bool.not_eq_true', Bool.not_eq_false', Bool.not_eq_eq_eq_not, Bool.not_true, Bool.not_false, Bool.and_eq_true, Bool.or_eq_true, Bool.or_eq_false_iff, beq_iff_eq, beq_eq_false_iff_ne, ne_eq, Int.not_lt, Int.not_le, Decidable.not_not] at hg102
              refine g_step_yes (j := 6) (t := 102) rfl rfl rfl rfl (s_callp rfl rfl rfl (awake18_ok _) ?_)
              rintro _ rfl
              refine g_step rfl (s_val (v_pick_t rfl rfl) rfl rfl ?_)
              refine g_step rfl (s_val (v_assign rfl) rfl rfl ?_)
              refine g_nil ?_
              refine g_next hK37 ?_
              refine g_ret ?_
              refine g_end1 (.inl rfl) Try.results5 (.tmp rfl) [] (ASub.refl _) (AHeap.sub_refl _) (fun p hp => by cases hp) ⟨rfl, ?_⟩
              rfl
            · exfalso; (try simp only [decide_eq_true_eq, decide_eq_false_iff_not, Bool.not_eq_true', Bool.not_eq_false', Bool.not_eq_eq_eq_not, Bool.not_true, Bool.not_false, Bool.and_eq_true, Bool.or_eq_true, Bool.or_eq_false_iff, beq_iff_eq, beq_eq_false_iff_ne, ne_eq, Int.not_lt, Int.not_le, Decidable.not_not] at hg102); simp [hce, hc85] at hg102
          · exfalso; (try simp only [decide_eq_true_eq, decide_eq_false_iff_not, Bool.not_eq_true', Bool.not_eq_false', Bool.not_eq_eq_eq_not, Bool.not_true, Bool.not_false, Bool.and_eq_true, Bool.or_eq_true, Bool.or_eq_false_iff, beq_iff_eq, beq_eq_false_iff_ne, ne_eq, Int.not_lt, Int.not_le, Decidable.not_not] at hg97); simp [hce, hc85] at hg97

end Go.Proofs.Ytnkcofpkmnohkaa

import Derived.Test.YtgipbhfblmblcaaMember6
set_option maxHeartbeats 8000000
set_option linter.unusedSimpArgs false
set_option linter.unusedVariables false
set_option maxRecDepth 100000
namespace Go.Proofs.Ytgipbhfblmblcaa
open Go Go.Proofs.Ytgipbhfblmblcaa.AM
theorem memberPlays_ok (own : Rc) (room : Int) (acts : List Ac) (id s : Int) (hho : Held own.bag) (hha : ∀ a ∈ acts, Held a.rc.bag) (hlen : acts.length ≤ 140737488351232) (G : AHeap) : PCalls Try.prog 7 [encR own, .int .i64 room, .imm (acts.map encAc), .int .i64 id, .int .i64 s] G (fun v => v = .bool true) := by
  refine LCalls.intro 167 fi7 rfl Try.ntmps7 rfl (fun _ h => h.elim) (fun H hH w0 hw0 => ?_)
  refine g_seq (fun K0 hK0 => ?_)
  refine g_region ?_
  refine g_step rfl (s_box rfl rfl rfl rfl ?_)
  refine g_step rfl (s_val (v_assign rfl) rfl rfl ?_)
  refine g_nil ?_
  refine g_next hK0 ?_
  refine g_seq (fun K1 hK1 => ?_)
  refine g_seq (fun K2 hK2 => ?_)
  refine g_region ?_
  refine g_step rfl (s_val (by first | exact v_loadl_all ty46 rfl rfl rfl rfl rfl | exact v_loadl_part (cs := [_, _, _, _, _, _, _]) ty46 rfl rfl rfl rfl rfl rfl) rfl rfl ?_)
  refine g_step rfl (s_val (v_move rfl) rfl rfl ?_)
  refine g_step rfl (s_callp rfl rfl rfl (few25_ok own acts hho hha hlen _) ?_)
  rintro _ rfl
  refine g_step rfl (s_val (v_not rfl) rfl rfl ?_)
  refine g_nil ?_
  refine g_next hK2 ?_
  refine g_cond rfl (fun hc26 => ?_) (fun hc26 => ?_)
  · try simp only [decide_eq_true_eq, decide_eq_false_iff_not, Bool.not_eq_true', Bool.not_eq_false', Bool.not_eq_eq_eq_not, Bool.not_true, Bool.not_false, Bool.and_eq_true, Bool.or_eq_true, Bool.or_eq_false_iff, beq_iff_eq, beq_eq_false_iff_ne, ne_eq, Int.not_lt, Int.not_le, Decidable.not_not] at hc26
    refine g_seq (fun K3 hK3 => ?_)
    refine g_region ?_
    refine g_step rfl (s_callp rfl rfl rfl (awake25_ok _) ?_)
    rintro _ rfl
    refine g_step rfl (s_val (v_assign rfl) rfl rfl ?_)
    refine g_nil ?_
    refine g_next hK3 ?_
    refine g_ret ?_
    refine g_then_ret ?_
    refine g_end1 (.inl rfl) Try.results7 (.tmp rfl) [] (ASub.refl _) (by first | exact AHeap.sub_refl _ | exact hsub) (fun p hp => by cases hp) ⟨rfl, ?_⟩
    rfl
  · try simp only [decide_eq_true_eq, decide_eq_false_iff_not, Bool.not_eq_true', Bool.not_eq_false', Bool.not_eq_eq_eq_not, Bool.not_true, Bool.not_false, Bool.and_eq_true, Bool.or_eq_true, Bool.or_eq_false_iff, beq_iff_eq, beq_eq_false_iff_ne, ne_eq, Int.not_lt, Int.not_le, Decidable.not_not] at hc26
    obtain ⟨hal, hb0, hab⟩ := fewA_all (own := own) (acts := acts) (by simpa using hc26)
    refine g_skip ?_
    refine g_next hK1 ?_
    refine g_seq (fun K4 hK4 => ?_)
    refine g_region ?_
    rcases begin_cases own room with hbad | ⟨hv, h0, hrg⟩ | ⟨hv, h0, h1, h48⟩
    · skip
      refine g_step rfl (s_val (by first | exact v_loadl_all ty46 rfl rfl rfl rfl rfl | exact v_loadl_part (cs := [_, _, _, _, _, _, _]) ty46 rfl rfl rfl rfl rfl rfl) rfl rfl ?_)
      refine g_step rfl (s_val (v_move rfl) rfl rfl ?_)
      refine g_step rfl (s_callp rfl rfl rfl (begin1_ok own room _ hb0 hbad) ?_)
      rintro _ rfl
      refine g_step rfl (s_val (v_move rfl) rfl rfl ?_)
      refine g_step rfl (s_val (v_extract rfl rfl) rfl rfl ?_)
      refine g_step rfl (s_val (v_extract rfl rfl) rfl rfl ?_)
      refine g_step rfl (s_val (v_assign rfl) rfl rfl ?_)
      refine g_step rfl (s_val (v_assign rfl) rfl rfl ?_)
      refine g_nil ?_
      refine g_next hK4 ?_
      refine g_seq (fun K5 hK5 => ?_)
      refine g_seq (fun K6 hK6 => ?_)
      refine g_region ?_
      refine g_step rfl (s_val (by first | exact v_loadl_all ty46 rfl rfl rfl rfl rfl | exact v_loadl_part (cs := [_, _, _, _, _, _, _]) ty46 rfl rfl rfl rfl rfl rfl) rfl rfl ?_)
      refine g_step rfl (s_callp rfl rfl rfl (recValid_ok own _ hb0) ?_)
      rintro _ rfl
      refine g_step rfl (s_val (v_not rfl) rfl rfl ?_)
      refine g_step rfl (s_val (v_move rfl) rfl rfl ?_)
      refine g_split 37 rfl (fun hg37 => ?_) (fun hg37 => ?_)
      · try simp only [decide_eq_true_eq, decide_eq_false_iff_not, Bool.not_eq_true', Bool.not_eq_false', Bool.not_eq_eq_eq_not, Bool.not_true, Bool.not_false, Bool.and_eq_true, Bool.or_eq_true, Bool.or_eq_false_iff, beq_iff_eq, beq_eq_false_iff_ne, ne_eq, Int.not_lt, Int.not_le, Decidable.not_not] at hg37
        refine g_step_no (j := 3) (t := 37) rfl rfl rfl rfl rfl rfl rfl ?_
        refine g_step_no (j := 3) (t := 37) rfl rfl rfl rfl rfl rfl rfl ?_
        refine g_step_no (j := 3) (t := 37) rfl rfl rfl rfl rfl rfl rfl ?_
        refine g_step rfl (s_val (v_pick_t rfl rfl) rfl rfl ?_)
        refine g_nil ?_
        refine g_next hK6 ?_
        first | refine g_keep [1, 2, 3, 4, 11, 12, 41] [5] [5] (keep_cons rfl (keep_cons rfl (keep_cons rfl (keep_cons rfl (keep_cons rfl (keep_cons rfl (keep_cons rfl keep_nil))))))) (lkeep_cons rfl lkeep_nil) (keep_cons rfl keep_nil) rfl ?_ | refine g_keep [1, 2, 3, 4, 11, 12, 41] [5] [5] rfl rfl rfl rfl ?_
        refine g_cond rfl (fun _ => ?_) (fun h => by cases h)
        refine g_seq (fun K7 hK7 => ?_)
        refine g_region ?_
        refine g_step rfl (s_val (v_move rfl) rfl rfl ?_)
        refine g_step rfl (s_val (by first | exact v_ptr_eql_nil ty48 rfl rfl rfl | exact v_nil_eql_nil ty48 rfl rfl | exact v_ptrO_eql ty48 rfl rfl) rfl rfl ?_)
        refine g_step rfl (s_val (v_move rfl) rfl rfl ?_)
        refine g_split 44 rfl (fun hg44 => ?_) (fun hg44 => ?_)
        · try simp only [decide_eq_true_eq, decide_eq_false_iff_not, Bool.not_eq_true', Bool.not_eq_false', Bool.not_eq_eq_eq_not, Bool.not_true, Bool.not_false, Bool.and_eq_true, Bool.or_eq_true, Bool.or_eq_false_iff, beq_iff_eq, beq_eq_false_iff_ne, ne_eq, Int.not_lt, Int.not_le, Decidable.not_not] at hg44
          refine g_step_yes (j := 2) (t := 44) rfl rfl rfl rfl (s_val (v_move rfl) rfl rfl ?_)
          refine g_step_yes (j := 2) (t := 44) rfl rfl rfl rfl (s_val (v_eql rfl rfl) rfl rfl ?_)
          refine g_step rfl (s_val (v_pick_t rfl rfl) rfl rfl ?_)
          refine g_step rfl (s_val (v_move rfl) rfl rfl ?_)
          refine g_split 48 rfl (fun hg48 => ?_) (fun hg48 => ?_)
          · try simp only [decide_eq_true_eq, decide_eq_false_iff_not, Bool.not_eq_true', Bool.not_eq_false', Bool.not_eq_eq_eq_not, Bool.not_true, Bool.not_false, Bool.and_eq_true, Bool.or_eq_true, Bool.or_eq_false_iff, beq_iff_eq, beq_eq_false_iff_ne, ne_eq, Int.not_lt, Int.not_le, Decidable.not_not] at hg48
            refine g_step_yes (j := 6) (t := 48) rfl rfl rfl rfl (s_callp rfl rfl rfl (awake25_ok _) ?_)
            rintro _ rfl
            refine g_step rfl (s_val (v_pick_t rfl rfl) rfl rfl ?_)
            refine g_step rfl (s_val (v_assign rfl) rfl rfl ?_)
            refine g_nil ?_
            refine g_next hK7 ?_
            refine g_ret ?_
            refine g_then_ret ?_
            refine g_end1 (.inl rfl) Try.results7 (.tmp rfl) [] (ASub.refl _) (by first | exact AHeap.sub_refl _ | exact hsub) (fun p hp => by cases hp) ⟨rfl, ?_⟩
            rfl
          · exfalso; (try simp only [decide_eq_true_eq, decide_eq_false_iff_not, Bool.not_eq_true', Bool.not_eq_false', Bool.not_eq_eq_eq_not, Bool.not_true, Bool.not_false, Bool.and_eq_true, Bool.or_eq_true, Bool.or_eq_false_iff, beq_iff_eq, beq_eq_false_iff_ne, ne_eq, Int.not_lt, Int.not_le, Decidable.not_not] at hg48); simp at hg48
        · exfalso; (try simp only [decide_eq_true_eq, decide_eq_false_iff_not, Bool.not_eq_true', Bool.not_eq_false', Bool.not_eq_eq_eq_not, Bool.not_true, Bool.not_false, Bool.and_eq_true, Bool.or_eq_true, Bool.or_eq_false_iff, beq_iff_eq, beq_eq_false_iff_ne, ne_eq, Int.not_lt, Int.not_le, Decidable.not_not] at hg44); simp at hg44
      · try simp only [decide_eq_true_eq, decide_eq_false_iff_not, Bool.not_eq_true', Bool.not_eq_false', Bool.not_eq_eq_eq_not, Bool.not_true, Bool.not_false, Bool.and_eq_true, Bool.or_eq_true, Bool.or_eq_false_iff, beq_iff_eq, beq_eq_false_iff_ne, ne_eq, Int.not_lt, Int.not_le, Decidable.not_not] at hg37
        refine g_step_yes (j := 3) (t := 37) rfl rfl rfl rfl (s_fieldAddr ty46 fo46_2 ty3 rfl rfl ?_)
        refine g_step_yes (j := 3) (t := 37) rfl rfl rfl rfl (s_val (v_loadl ty3 rfl rfl rfl rfl) rfl rfl ?_)
        refine g_step_yes (j := 3) (t := 37) rfl rfl rfl rfl (s_val (v_neq rfl rfl) rfl rfl ?_)
        refine g_step rfl (s_val (v_pick_f rfl rfl) rfl rfl ?_)
        refine g_nil ?_
        refine g_next hK6 ?_
        first | refine g_keep [1, 2, 3, 4, 11, 12, 41] [5] [5] (keep_cons rfl (keep_cons rfl (keep_cons rfl (keep_cons rfl (keep_cons rfl (keep_cons rfl (keep_cons rfl keep_nil))))))) (lkeep_cons rfl lkeep_nil) (keep_cons rfl keep_nil) rfl ?_ | refine g_keep [1, 2, 3, 4, 11, 12, 41] [5] [5] rfl rfl rfl rfl ?_
        refine g_cond rfl (fun hc41 => ?_) (fun hc41 => ?_)
        · try simp only [decide_eq_true_eq, decide_eq_false_iff_not, Bool.not_eq_true', Bool.not_eq_false', Bool.not_eq_eq_eq_not, Bool.not_true, Bool.not_false, Bool.and_eq_true, Bool.or_eq_true, Bool.or_eq_false_iff, beq_iff_eq, beq_eq_false_iff_ne, ne_eq, Int.not_lt, Int.not_le, Decidable.not_not] at hc41
          refine g_seq (fun K8 hK8 => ?_)
          refine g_region ?_
          refine g_step rfl (s_val (v_move rfl) rfl rfl ?_)
          refine g_step rfl (s_val (by first | exact v_ptr_eql_nil ty48 rfl rfl rfl | exact v_nil_eql_nil ty48 rfl rfl | exact v_ptrO_eql ty48 rfl rfl) rfl rfl ?_)
          refine g_step rfl (s_val (v_move rfl) rfl rfl ?_)
          refine g_split 44 rfl (fun hg44 => ?_) (fun hg44 => ?_)
          · try simp only [decide_eq_true_eq, decide_eq_false_iff_not, Bool.not_eq_true', Bool.not_eq_false', Bool.not_eq_eq_eq_not, Bool.not_true, Bool.not_false, Bool.and_eq_true, Bool.or_eq_true, Bool.or_eq_false_iff, beq_iff_eq, beq_eq_false_iff_ne, ne_eq, Int.not_lt, Int.not_le, Decidable.not_not] at hg44
            refine g_step_yes (j := 2) (t := 44) rfl rfl rfl rfl (s_val (v_move rfl) rfl rfl ?_)
            refine g_step_yes (j := 2) (t := 44) rfl rfl rfl rfl (s_val (v_eql rfl rfl) rfl rfl ?_)
            refine g_step rfl (s_val (v_pick_t rfl rfl) rfl rfl ?_)
            refine g_step rfl (s_val (v_move rfl) rfl rfl ?_)
            refine g_split 48 rfl (fun hg48 => ?_) (fun hg48 => ?_)
            · try simp only [decide_eq_true_eq, decide_eq_false_iff_not, Bool.not_eq_true', Bool.not_eq_false', Bool.not_eq_eq_eq_not, Bool.not_true, Bool.not_false, Bool.and_eq_true, Bool.or_eq_true, Bool.or_eq_false_iff, beq_iff_eq, beq_eq_false_iff_ne, ne_eq, Int.not_lt, Int.not_le, Decidable.not_not] at hg48
              refine g_step_yes (j := 6) (t := 48) rfl rfl rfl rfl (s_callp rfl rfl rfl (awake25_ok _) ?_)
              rintro _ rfl
              refine g_step rfl (s_val (v_pick_t rfl rfl) rfl rfl ?_)
              refine g_step rfl (s_val (v_assign rfl) rfl rfl ?_)
              refine g_nil ?_
              refine g_next hK8 ?_
              refine g_ret ?_
              refine g_then_ret ?_
              refine g_end1 (.inl rfl) Try.results7 (.tmp rfl) [] (ASub.refl _) (by first | exact AHeap.sub_refl _ | exact hsub) (fun p hp => by cases hp) ⟨rfl, ?_⟩
              rfl
            · exfalso; (try simp only [decide_eq_true_eq, decide_eq_false_iff_not, Bool.not_eq_true', Bool.not_eq_false', Bool.not_eq_eq_eq_not, Bool.not_true, Bool.not_false, Bool.and_eq_true, Bool.or_eq_true, Bool.or_eq_false_iff, beq_iff_eq, beq_eq_false_iff_ne, ne_eq, Int.not_lt, Int.not_le, Decidable.not_not] at hg48); simp at hg48
          · exfalso; (try simp only [decide_eq_true_eq, decide_eq_false_iff_not, Bool.not_eq_true', Bool.not_eq_false', Bool.not_eq_eq_eq_not, Bool.not_true, Bool.not_false, Bool.and_eq_true, Bool.or_eq_true, Bool.or_eq_false_iff, beq_iff_eq, beq_eq_false_iff_ne, ne_eq, Int.not_lt, Int.not_le, Decidable.not_not] at hg44); simp at hg44
        · exfalso; (try simp only [decide_eq_true_eq, decide_eq_false_iff_not, Bool.not_eq_true', Bool.not_eq_false', Bool.not_eq_eq_eq_not, Bool.not_true, Bool.not_false, Bool.and_eq_true, Bool.or_eq_true, Bool.or_eq_false_iff, beq_iff_eq, beq_eq_false_iff_ne, ne_eq, Int.not_lt, Int.not_le, Decidable.not_not] at hc41); first | (simp_all; done) | (simp_all; omega) | omega
    · skip
      refine g_step rfl (s_val (by first | exact v_loadl_all ty46 rfl rfl rfl rfl rfl | exact v_loadl_part (cs := [_, _, _, _, _, _, _]) ty46 rfl rfl rfl rfl rfl rfl) rfl rfl ?_)
      refine g_step rfl (s_val (v_move rfl) rfl rfl ?_)
      refine g_step rfl (s_callp rfl rfl rfl (begin5_ok own room _ hb0 hv h0 hrg) ?_)
      rintro _ rfl
      refine g_step rfl (s_val (v_move rfl) rfl rfl ?_)
      refine g_step rfl (s_val (v_extract rfl rfl) rfl rfl ?_)
      refine g_step rfl (s_val (v_extract rfl rfl) rfl rfl ?_)
      refine g_step rfl (s_val (v_assign rfl) rfl rfl ?_)
      refine g_step rfl (s_val (v_assign rfl) rfl rfl ?_)
      refine g_nil ?_
      refine g_next hK4 ?_
      refine g_seq (fun K9 hK9 => ?_)
      refine g_seq (fun K10 hK10 => ?_)
      refine g_region ?_
      refine g_step rfl (s_val (by first | exact v_loadl_all ty46 rfl rfl rfl rfl rfl | exact v_loadl_part (cs := [_, _, _, _, _, _, _]) ty46 rfl rfl rfl rfl rfl rfl) rfl rfl ?_)
      refine g_step rfl (s_callp rfl rfl rfl (recValid_ok own _ hb0) ?_)
      rintro _ rfl
      refine g_step rfl (s_val (v_not rfl) rfl rfl ?_)
      refine g_step rfl (s_val (v_move rfl) rfl rfl ?_)
      refine g_split 37 rfl (fun hg37 => ?_) (fun hg37 => ?_)
      · exfalso; (try simp only [decide_eq_true_eq, decide_eq_false_iff_not, Bool.not_eq_true', Bool.not_eq_false', Bool.not_eq_eq_eq_not, Bool.not_true, Bool.not_false, Bool.and_eq_true, Bool.or_eq_true, Bool.or_eq_false_iff, beq_iff_eq, beq_eq_false_iff_ne, ne_eq, Int.not_lt, Int.not_le, Decidable.not_not] at hg37); first | (simp_all; done) | (simp_all; omega) | omega
      · try simp only [decide_eq_true_eq, decide_eq_false_iff_not, Bool.not_eq_true', Bool.not_eq_false', Bool.not_eq_eq_eq_not, Bool.not_true, Bool.not_false, Bool.and_eq_true, Bool.or_eq_true, Bool.or_eq_false_iff, beq_iff_eq, beq_eq_false_iff_ne, ne_eq, Int.not_lt, Int.not_le, Decidable.not_not] at hg37
        refine g_step_yes (j := 3) (t := 37) rfl rfl rfl rfl (s_fieldAddr ty46 fo46_2 ty3 rfl rfl ?_)
        refine g_step_yes (j := 3) (t := 37) rfl rfl rfl rfl (s_val (v_loadl ty3 rfl rfl rfl rfl) rfl rfl ?_)
        refine g_step_yes (j := 3) (t := 37) rfl rfl rfl rfl (s_val (v_neq rfl rfl) rfl rfl ?_)
        refine g_step rfl (s_val (v_pick_f rfl rfl) rfl rfl ?_)
        refine g_nil ?_
        refine g_next hK10 ?_
        first | refine g_keep [1, 2, 3, 4, 11, 12, 41] [5] [5] (keep_cons rfl (keep_cons rfl (keep_cons rfl (keep_cons rfl (keep_cons rfl (keep_cons rfl (keep_cons rfl keep_nil))))))) (lkeep_cons rfl lkeep_nil) (keep_cons rfl keep_nil) rfl ?_ | refine g_keep [1, 2, 3, 4, 11, 12, 41] [5] [5] rfl rfl rfl rfl ?_
        refine g_cond rfl (fun hc41 => ?_) (fun hc41 => ?_)
        · exfalso; (try simp only [decide_eq_true_eq, decide_eq_false_iff_not, Bool.not_eq_true', Bool.not_eq_false', Bool.not_eq_eq_eq_not, Bool.not_true, Bool.not_false, Bool.and_eq_true, Bool.or_eq_true, Bool.or_eq_false_iff, beq_iff_eq, beq_eq_false_iff_ne, ne_eq, Int.not_lt, Int.not_le, Decidable.not_not] at hc41); first | (simp_all; done) | (simp_all; omega) | omega
        · try simp only [decide_eq_true_eq, decide_eq_false_iff_not, Bool.not_eq_true', Bool.not_eq_false', Bool.not_eq_eq_eq_not, Bool.not_true, Bool.not_false, Bool.and_eq_true, Bool.or_eq_true, Bool.or_eq_false_iff, beq_iff_eq, beq_eq_false_iff_ne, ne_eq, Int.not_lt, Int.not_le, Decidable.not_not] at hc41
          refine g_skip ?_
          refine g_next hK9 ?_
          refine g_seq (fun K11 hK11 => ?_)
          refine g_seq (fun K12 hK12 => ?_)
          refine g_region ?_
          refine g_step rfl (s_val (v_move rfl) rfl rfl ?_)
          refine g_step rfl (s_val (v_lss rfl rfl) rfl rfl ?_)
          refine g_step rfl (s_val (v_move rfl) rfl rfl ?_)
          refine g_split 53 rfl (fun hg53 => ?_) (fun hg53 => ?_)
          · try simp only [decide_eq_true_eq, decide_eq_false_iff_not, Bool.not_eq_true', Bool.not_eq_false', Bool.not_eq_eq_eq_not, Bool.not_true, Bool.not_false, Bool.and_eq_true, Bool.or_eq_true, Bool.or_eq_false_iff, beq_iff_eq, beq_eq_false_iff_ne, ne_eq, Int.not_lt, Int.not_le, Decidable.not_not] at hg53
            refine g_step_no (j := 2) (t := 53) rfl rfl rfl rfl rfl rfl rfl ?_
            refine g_step_no (j := 2) (t := 53) rfl rfl rfl rfl rfl rfl rfl ?_
            refine g_step rfl (s_val (v_pick_t rfl rfl) rfl rfl ?_)
            refine g_nil ?_
            refine g_next hK12 ?_
            refine g_cond rfl (fun _ => ?_) (fun h => by cases h)
            refine g_seq (fun K13 hK13 => ?_)
            refine g_region ?_
            refine g_step rfl (s_val (v_move rfl) rfl rfl ?_)
            refine g_step rfl (s_val (by first | exact v_ptr_eql_nil ty48 rfl rfl rfl | exact v_nil_eql_nil ty48 rfl rfl | exact v_ptrO_eql ty48 rfl rfl) rfl rfl ?_)
            refine g_step rfl (s_val (v_move rfl) rfl rfl ?_)
            refine g_split 59 rfl (fun hg59 => ?_) (fun hg59 => ?_)
            · try simp only [decide_eq_true_eq, decide_eq_false_iff_not, Bool.not_eq_true', Bool.not_eq_false', Bool.not_eq_eq_eq_not, Bool.not_true, Bool.not_false, Bool.and_eq_true, Bool.or_eq_true, Bool.or_eq_false_iff, beq_iff_eq, beq_eq_false_iff_ne, ne_eq, Int.not_lt, Int.not_le, Decidable.not_not] at hg59
              refine g_step_yes (j := 2) (t := 59) rfl rfl rfl rfl (s_val (v_move rfl) rfl rfl ?_)
              refine g_step_yes (j := 2) (t := 59) rfl rfl rfl rfl (s_val (v_eql rfl rfl) rfl rfl ?_)
              refine g_step rfl (s_val (v_pick_t rfl rfl) rfl rfl ?_)
              refine g_step rfl (s_val (v_move rfl) rfl rfl ?_)
              refine g_split 63 rfl (fun hg63 => ?_) (fun hg63 => ?_)
              · try simp only [decide_eq_true_eq, decide_eq_false_iff_not, Bool.not_eq_true', Bool.not_eq_false', Bool.not_eq_eq_eq_not, Bool.not_true, Bool.not_false, Bool.and_eq_true, Bool.or_eq_true, Bool.or_eq_false_iff, beq_iff_eq, beq_eq_false_iff_ne, ne_eq, Int.not_lt, Int.not_le, Decidable.not_not] at hg63
                refine g_step_yes (j := 6) (t := 63) rfl rfl rfl rfl (s_callp rfl rfl rfl (awake25_ok _) ?_)
                rintro _ rfl
                refine g_step rfl (s_val (v_pick_t rfl rfl) rfl rfl ?_)
                refine g_step rfl (s_val (v_assign rfl) rfl rfl ?_)
                refine g_nil ?_
                refine g_next hK13 ?_
                refine g_ret ?_
                refine g_then_ret ?_
                refine g_end1 (.inl rfl) Try.results7 (.tmp rfl) [] (ASub.refl _) (by first | exact AHeap.sub_refl _ | exact hsub) (fun p hp => by cases hp) ⟨rfl, ?_⟩
                rfl
              · exfalso; (try simp only [decide_eq_true_eq, decide_eq_false_iff_not, Bool.not_eq_true', Bool.not_eq_false', Bool.not_eq_eq_eq_not, Bool.not_true, Bool.not_false, Bool.and_eq_true, Bool.or_eq_true, Bool.or_eq_false_iff, beq_iff_eq, beq_eq_false_iff_ne, ne_eq, Int.not_lt, Int.not_le, Decidable.not_not] at hg63); simp at hg63
            · exfalso; (try simp only [decide_eq_true_eq, decide_eq_false_iff_not, Bool.not_eq_true', Bool.not_eq_false', Bool.not_eq_eq_eq_not, Bool.not_true, Bool.not_false, Bool.and_eq_true, Bool.or_eq_true, Bool.or_eq_false_iff, beq_iff_eq, beq_eq_false_iff_ne, ne_eq, Int.not_lt, Int.not_le, Decidable.not_not] at hg59); simp at hg59
          · try simp only [decide_eq_true_eq, decide_eq_false_iff_not, Bool.not_eq_true', Bool.not_eq_false', Bool.not_eq_eq_eq_not, Bool.not_true, Bool.not_false, Bool.and_eq_true, Bool.or_eq_true, Bool.or_eq_false_iff, beq_iff_eq, beq_eq_false_iff_ne, ne_eq, Int.not_lt, Int.not_le, Decidable.not_not] at hg53
            refine g_step_yes (j := 2) (t := 53) rfl rfl rfl rfl (s_val (v_move rfl) rfl rfl ?_)
            refine g_step_yes (j := 2) (t := 53) rfl rfl rfl rfl (s_val (v_gtr rfl rfl) rfl rfl ?_)
            refine g_step rfl (s_val (v_pick_f rfl rfl) rfl rfl ?_)
            refine g_nil ?_
            refine g_next hK12 ?_
            refine g_cond rfl (fun hc56 => ?_) (fun hc56 => ?_)
            · try simp only [decide_eq_true_eq, decide_eq_false_iff_not, Bool.not_eq_true', Bool.not_eq_false', Bool.not_eq_eq_eq_not, Bool.not_true, Bool.not_false, Bool.and_eq_true, Bool.or_eq_true, Bool.or_eq_false_iff, beq_iff_eq, beq_eq_false_iff_ne, ne_eq, Int.not_lt, Int.not_le, Decidable.not_not] at hc56
              refine g_seq (fun K14 hK14 => ?_)
              refine g_region ?_
              refine g_step rfl (s_val (v_move rfl) rfl rfl ?_)
              refine g_step rfl (s_val (by first | exact v_ptr_eql_nil ty48 rfl rfl rfl | exact v_nil_eql_nil ty48 rfl rfl | exact v_ptrO_eql ty48 rfl rfl) rfl rfl ?_)
              refine g_step rfl (s_val (v_move rfl) rfl rfl ?_)
              refine g_split 59 rfl (fun hg59 => ?_) (fun hg59 => ?_)
              · try simp only [decide_eq_true_eq, decide_eq_false_iff_not, Bool.not_eq_true', Bool.not_eq_false', Bool.not_eq_eq_eq_not, Bool.not_true, Bool.not_false, Bool.and_eq_true, Bool.or_eq_true, Bool.or_eq_false_iff, beq_iff_eq, beq_eq_false_iff_ne, ne_eq, Int.not_lt, Int.not_le, Decidable.not_not] at hg59
                refine g_step_yes (j := 2) (t := 59) rfl rfl rfl rfl (s_val (v_move rfl) rfl rfl ?_)
                refine g_step_yes (j := 2) (t := 59) rfl rfl rfl rfl (s_val (v_eql rfl rfl) rfl rfl ?_)
                refine g_step rfl (s_val (v_pick_t rfl rfl) rfl rfl ?_)
                refine g_step rfl (s_val (v_move rfl) rfl rfl ?_)
                refine g_split 63 rfl (fun hg63 => ?_) (fun hg63 => ?_)
                · try simp only [decide_eq_true_eq, decide_eq_false_iff_not, Bool.not_eq_true', Bool.not_eq_false', Bool.not_eq_eq_eq_not, Bool.not_true, Bool.not_false, Bool.and_eq_true, Bool.or_eq_true, Bool.or_eq_false_iff, beq_iff_eq, beq_eq_false_iff_ne, ne_eq, Int.not_lt, Int.not_le, Decidable.not_not] at hg63
                  refine g_step_yes (j := 6) (t := 63) rfl rfl rfl rfl (s_callp rfl rfl rfl (awake25_ok _) ?_)
                  rintro _ rfl
                  refine g_step rfl (s_val (v_pick_t rfl rfl) rfl rfl ?_)
                  refine g_step rfl (s_val (v_assign rfl) rfl rfl ?_)
                  refine g_nil ?_
                  refine g_next hK14 ?_
                  refine g_ret ?_
                  refine g_then_ret ?_
                  refine g_end1 (.inl rfl) Try.results7 (.tmp rfl) [] (ASub.refl _) (by first | exact AHeap.sub_refl _ | exact hsub) (fun p hp => by cases hp) ⟨rfl, ?_⟩
                  rfl
                · exfalso; (try simp only [decide_eq_true_eq, decide_eq_false_iff_not, Bool.not_eq_true', Bool.not_eq_false', Bool.not_eq_eq_eq_not, Bool.not_true, Bool.not_false, Bool.and_eq_true, Bool.or_eq_true, Bool.or_eq_false_iff, beq_iff_eq, beq_eq_false_iff_ne, ne_eq, Int.not_lt, Int.not_le, Decidable.not_not] at hg63); simp at hg63
              · exfalso; (try simp only [decide_eq_true_eq, decide_eq_false_iff_not, Bool.not_eq_true', Bool.not_eq_false', Bool.not_eq_eq_eq_not, Bool.not_true, Bool.not_false, Bool.and_eq_true, Bool.or_eq_true, Bool.or_eq_false_iff, beq_iff_eq, beq_eq_false_iff_ne, ne_eq, Int.not_lt, Int.not_le, Decidable.not_not] at hg59); simp at hg59
            · exfalso; (try simp only [decide_eq_true_eq, decide_eq_false_iff_not, Bool.not_eq_true', Bool.not_eq_false', Bool.not_eq_eq_eq_not, Bool.not_true, Bool.not_false, Bool.and_eq_true, Bool.or_eq_true, Bool.or_eq_false_iff, beq_iff_eq, beq_eq_false_iff_ne, ne_eq, Int.not_lt, Int.not_le, Decidable.not_not] at hc56); first | (simp_all; done) | (simp_all; omega) | omega
    · skip
      refine g_step rfl (s_val (by first | exact v_loadl_all ty46 rfl rfl rfl rfl rfl | exact v_loadl_part (cs := [_, _, _, _, _, _, _]) ty46 rfl rfl rfl rfl rfl rfl) rfl rfl ?_)
      refine g_step rfl (s_val (v_move rfl) rfl rfl ?_)
      refine g_step rfl (s_call rfl rfl rfl (begin_ok own room _ hb0 hv h0 h1 h48) (fun _ h => h.elim) ?_)
      rintro n1 rv1 effs1 hn1 hdom1 ⟨p, q, hp1, hq1, hpq, rfl, rfl⟩ hok1
      obtain ⟨r, hT, hnp, hnr, hsub⟩ := begin_st (own := own) (room := room) hw0 (G := H) (AHeap.sub_refl _) (Nat.le_trans hn1 hp1) (Nat.le_trans hn1 hq1) hpq
      generalize setAll H _ = G1 at hT hsub ⊢
      refine g_step rfl (s_val (v_move rfl) rfl rfl ?_)
      refine g_step rfl (s_val (v_extract rfl rfl) rfl rfl ?_)
      refine g_step rfl (s_val (v_extract rfl rfl) rfl rfl ?_)
      refine g_step rfl (s_val (v_assign rfl) rfl rfl ?_)
      refine g_step rfl (s_val (v_assign rfl) rfl rfl ?_)
      refine g_nil ?_
      refine g_next hK4 ?_
      refine g_seq (fun K15 hK15 => ?_)
      refine g_seq (fun K16 hK16 => ?_)
      refine g_region ?_
      refine g_step rfl (s_val (by first | exact v_loadl_all ty46 rfl rfl rfl rfl rfl | exact v_loadl_part (cs := [_, _, _, _, _, _, _]) ty46 rfl rfl rfl rfl rfl rfl) rfl rfl ?_)
      refine g_step rfl (s_callp rfl rfl rfl (recValid_ok own _ hb0) ?_)
      rintro _ rfl
      refine g_step rfl (s_val (v_not rfl) rfl rfl ?_)
      refine g_step rfl (s_val (v_move rfl) rfl rfl ?_)
      refine g_split 37 rfl (fun hg37 => ?_) (fun hg37 => ?_)
      · exfalso; (try simp only [decide_eq_true_eq, decide_eq_false_iff_not, Bool.not_eq_true', Bool.not_eq_false', Bool.not_eq_eq_eq_not, Bool.not_true, Bool.not_false, Bool.and_eq_true, Bool.or_eq_true, Bool.or_eq_false_iff, beq_iff_eq, beq_eq_false_iff_ne, ne_eq, Int.not_lt, Int.not_le, Decidable.not_not] at hg37); first | (simp_all; done) | (simp_all; omega) | omega
      · try simp only [decide_eq_true_eq, decide_eq_false_iff_not, Bool.not_eq_true', Bool.not_eq_false', Bool.not_eq_eq_eq_not, Bool.not_true, Bool.not_false, Bool.and_eq_true, Bool.or_eq_true, Bool.or_eq_false_iff, beq_iff_eq, beq_eq_false_iff_ne, ne_eq, Int.not_lt, Int.not_le, Decidable.not_not] at hg37
        refine g_step_yes (j := 3) (t := 37) rfl rfl rfl rfl (s_fieldAddr ty46 fo46_2 ty3 rfl rfl ?_)
        refine g_step_yes (j := 3) (t := 37) rfl rfl rfl rfl (s_val (v_loadl ty3 rfl rfl rfl rfl) rfl rfl ?_)
        refine g_step_yes (j := 3) (t := 37) rfl rfl rfl rfl (s_val (v_neq rfl rfl) rfl rfl ?_)
        refine g_step rfl (s_val (v_pick_f rfl rfl) rfl rfl ?_)
        refine g_nil ?_
        refine g_next hK16 ?_
        first | refine g_keep [1, 2, 3, 4, 11, 12, 41] [5] [5] (keep_cons rfl (keep_cons rfl (keep_cons rfl (keep_cons rfl (keep_cons rfl (keep_cons rfl (keep_cons rfl keep_nil))))))) (lkeep_cons rfl lkeep_nil) (keep_cons rfl keep_nil) rfl ?_ | refine g_keep [1, 2, 3, 4, 11, 12, 41] [5] [5] rfl rfl rfl rfl ?_
        refine g_cond rfl (fun hc41 => ?_) (fun hc41 => ?_)
        · exfalso; (try simp only [decide_eq_true_eq, decide_eq_false_iff_not, Bool.not_eq_true', Bool.not_eq_false', Bool.not_eq_eq_eq_not, Bool.not_true, Bool.not_false, Bool.and_eq_true, Bool.or_eq_true, Bool.or_eq_false_iff, beq_iff_eq, beq_eq_false_iff_ne, ne_eq, Int.not_lt, Int.not_le, Decidable.not_not] at hc41); first | (simp_all; done) | (simp_all; omega) | omega
        · try simp only [decide_eq_true_eq, decide_eq_false_iff_not, Bool.not_eq_true', Bool.not_eq_false', Bool.not_eq_eq_eq_not, Bool.not_true, Bool.not_false, Bool.and_eq_true, Bool.or_eq_true, Bool.or_eq_false_iff, beq_iff_eq, beq_eq_false_iff_ne, ne_eq, Int.not_lt, Int.not_le, Decidable.not_not] at hc41
          refine g_skip ?_
          refine g_next hK15 ?_
          refine g_seq (fun K17 hK17 => ?_)
          refine g_seq (fun K18 hK18 => ?_)
          refine g_region ?_
          refine g_step rfl (s_val (v_move rfl) rfl rfl ?_)
          refine g_step rfl (s_val (v_lss rfl rfl) rfl rfl ?_)
          refine g_step rfl (s_val (v_move rfl) rfl rfl ?_)
          refine g_split 53 rfl (fun hg53 => ?_) (fun hg53 => ?_)
          · exfalso; (try simp only [decide_eq_true_eq, decide_eq_false_iff_not, Bool.not_eq_true', Bool.not_eq_false', Bool.not_eq_eq_eq_not, Bool.not_true, Bool.not_false, Bool.and_eq_true, Bool.or_eq_true, Bool.or_eq_false_iff, beq_iff_eq, beq_eq_false_iff_ne, ne_eq, Int.not_lt, Int.not_le, Decidable.not_not] at hg53); first | (simp_all; done) | (simp_all; omega) | omega
          · try simp only [decide_eq_true_eq, decide_eq_false_iff_not, Bool.not_eq_true', Bool.not_eq_false', Bool.not_eq_eq_eq_not, Bool.not_true, Bool.not_false, Bool.and_eq_true, Bool.or_eq_true, Bool.or_eq_false_iff, beq_iff_eq, beq_eq_false_iff_ne, ne_eq, Int.not_lt, Int.not_le, Decidable.not_not] at hg53
            refine g_step_yes (j := 2) (t := 53) rfl rfl rfl rfl (s_val (v_move rfl) rfl rfl ?_)
            refine g_step_yes (j := 2) (t := 53) rfl rfl rfl rfl (s_val (v_gtr rfl rfl) rfl rfl ?_)
            refine g_step rfl (s_val (v_pick_f rfl rfl) rfl rfl ?_)
            refine g_nil ?_
            refine g_next hK18 ?_
            refine g_cond rfl (fun hc56 => ?_) (fun hc56 => ?_)
            · exfalso; (try simp only [decide_eq_true_eq, decide_eq_false_iff_not, Bool.not_eq_true', Bool.not_eq_false', Bool.not_eq_eq_eq_not, Bool.not_true, Bool.not_false, Bool.and_eq_true, Bool.or_eq_true, Bool.or_eq_false_iff, beq_iff_eq, beq_eq_false_iff_ne, ne_eq, Int.not_lt, Int.not_le, Decidable.not_not] at hc56); first | (simp_all; done) | (simp_all; omega) | omega
            · try simp only [decide_eq_true_eq, decide_eq_false_iff_not, Bool.not_eq_true', Bool.not_eq_false', Bool.not_eq_eq_eq_not, Bool.not_true, Bool.not_false, Bool.and_eq_true, Bool.or_eq_true, Bool.or_eq_false_iff, beq_iff_eq, beq_eq_false_iff_ne, ne_eq, Int.not_lt, Int.not_le, Decidable.not_not] at hc56
              refine g_skip ?_
              refine g_next hK17 ?_
              refine g_seq (fun K19 hK19 => ?_)
              refine g_seq (fun K20 hK20 => ?_)
              refine g_region ?_
              refine g_step rfl (s_val (v_move rfl) rfl rfl ?_)
              refine g_step rfl (s_val (v_neq rfl rfl) rfl rfl ?_)
              refine g_step rfl (s_val (v_move rfl) rfl rfl ?_)
              refine g_split 68 rfl (fun hg68 => ?_) (fun hg68 => ?_)
              · exfalso; (try simp only [decide_eq_true_eq, decide_eq_false_iff_not, Bool.not_eq_true', Bool.not_eq_false', Bool.not_eq_eq_eq_not, Bool.not_true, Bool.not_false, Bool.and_eq_true, Bool.or_eq_true, Bool.or_eq_false_iff, beq_iff_eq, beq_eq_false_iff_ne, ne_eq, Int.not_lt, Int.not_le, Decidable.not_not] at hg68); simp at hg68
              · try simp only [decide_eq_true_eq, decide_eq_false_iff_not, Bool.not_eq_true', Bool.not_eq_false', Bool.not_eq_eq_eq_not, Bool.not_true, Bool.not_false, Bool.and_eq_true, Bool.or_eq_true, Bool.or_eq_false_iff, beq_iff_eq, beq_eq_false_iff_ne, ne_eq, Int.not_lt, Int.not_le, Decidable.not_not] at hg68
                refine g_step_yes (j := 2) (t := 68) rfl rfl rfl rfl (s_val (v_move rfl) rfl rfl ?_)
                refine g_step_yes (j := 2) (t := 68) rfl rfl rfl rfl (s_val (by first | exact v_ptr_eql_nil ty48 rfl rfl rfl | exact v_nil_eql_nil ty48 rfl rfl | exact v_ptrO_eql ty48 rfl rfl) rfl rfl ?_)
                refine g_step rfl (s_val (v_pick_f rfl rfl) rfl rfl ?_)
                refine g_nil ?_
                refine g_next hK20 ?_
                refine g_cond rfl (fun hc71 => ?_) (fun hc71 => ?_)
                · exfalso; (try simp only [decide_eq_true_eq, decide_eq_false_iff_not, Bool.not_eq_true', Bool.not_eq_false', Bool.not_eq_eq_eq_not, Bool.not_true, Bool.not_false, Bool.and_eq_true, Bool.or_eq_true, Bool.or_eq_false_iff, beq_iff_eq, beq_eq_false_iff_ne, ne_eq, Int.not_lt, Int.not_le, Decidable.not_not] at hc71); simp at hc71
                · try simp only [decide_eq_true_eq, decide_eq_false_iff_not, Bool.not_eq_true', Bool.not_eq_false', Bool.not_eq_eq_eq_not, Bool.not_true, Bool.not_false, Bool.and_eq_true, Bool.or_eq_true, Bool.or_eq_false_iff, beq_iff_eq, beq_eq_false_iff_ne, ne_eq, Int.not_lt, Int.not_le, Decidable.not_not] at hc71
                  refine g_skip ?_
                  refine g_next hK19 ?_
                  refine g_seq (fun K21 hK21 => ?_)
                  refine g_region ?_
                  refine g_step rfl (s_fieldAddr ty46 fo46_0 ty3 rfl rfl ?_)
                  refine g_step rfl (s_val (v_loadl ty3 rfl rfl rfl rfl) rfl rfl ?_)
                  refine g_step rfl (s_val (v_move rfl) rfl rfl ?_)
                  refine g_step rfl (s_val (by first | exact v_loadl_all ty46 rfl rfl rfl rfl rfl | exact v_loadl_part (cs := [_, _, _, _, _, _, _]) ty46 rfl rfl rfl rfl rfl rfl) rfl rfl ?_)
                  refine g_step rfl (s_lit ty22 ty46 rfl rfl rfl rfl rfl rfl rfl ?_)
                  refine g_step rfl (s_val (v_build (vs := [(0, _), (1, _), (2, _)]) (zs := [(.int .i64 0), (.int .i64 0), .nil0]) (cells := [_, _, _]) ty61 pl61 rfl rfl rfl) rfl rfl ?_)
                  refine g_step rfl (s_alloc (av := (.agg [(.int .i64 0), (.int .i64 0), .nil0])) ty61 rfl rfl rfl rfl ?_)
                  refine g_step rfl (s_store_all ty61 rfl rfl rfl rfl rfl rfl ?_)
                  refine g_nil ?_
                  refine g_next hK21 ?_
                  refine g_seq (fun K22 hK22 => ?_)
                  refine g_seq (fun K23 hK23 => ?_)
                  refine g_region ?_
                  refine g_step rfl (s_val (v_assign rfl) rfl rfl ?_)
                  refine g_nil ?_
                  refine g_next hK23 ?_
                  first | refine g_keep [2, 3, 4, 11, 14] [5, 13] [5, 13] (keep_cons rfl (keep_cons rfl (keep_cons rfl (keep_cons rfl (keep_cons rfl keep_nil))))) (lkeep_cons rfl (lkeep_cons rfl lkeep_nil)) (keep_cons rfl (keep_cons rfl keep_nil)) rfl ?_ | refine g_keep [2, 3, 4, 11, 14] [5, 13] [5, 13] rfl rfl rfl rfl ?_
                  refine g_block ?_
                  first | refine g_keep [2, 3, 4, 11, 14] [5, 13] [5, 13] (keep_cons rfl (keep_cons rfl (keep_cons rfl (keep_cons rfl (keep_cons rfl keep_nil))))) (lkeep_cons rfl (lkeep_cons rfl lkeep_nil)) (keep_cons rfl (keep_cons rfl keep_nil)) rfl ?_ | refine g_keep [2, 3, 4, 11, 14] [5, 13] [5, 13] rfl rfl rfl rfl ?_
                  refine g_loop (fun n env L B G => ∃ (k : Nat) (l : List Rc) (r : Nat), k ≤ acts.length ∧ n = acts.length - k ∧ env = [(2, .imm (acts.map encAc)), (3, .int .i64 id), (4, .int .i64 s), (11, .box p 0), (14, .int .i64 (k : Int))] ∧ L = [(5, 5, 0), (13, 13, 0)] ∧ B = [(5, (encR own)), (13, (mdl own.id room l))] ∧ Tb G p r own.id room l ∧ w0.heap.size ≤ r ∧ H.sub G ∧ MInv own.id room l) (acts.length) ⟨0, [own], r, Nat.zero_le _, rfl, rfl, rfl, rfl, ⟨hT, hnr, hsub, begin_inv hv hb0 h1 h48⟩⟩ (fun n env L B G hI => ?_)
                  obtain ⟨k, l, r, hk, rfl, rfl, rfl, rfl, hT, hnr, hsub, hm⟩ := hI
                  refine g_seq (fun K24 hK24 => ?_)
                  refine g_seq (fun K25 hK25 => ?_)
                  refine g_region ?_
                  refine g_step rfl (s_val (v_move rfl) rfl rfl ?_)
                  refine g_step rfl (s_val (v_move rfl) rfl rfl ?_)
                  refine g_step rfl (s_val (v_len ty58 rfl (by first | rfl | assumption) (by first | exact List.length_map .. | rfl)) rfl rfl ?_)
                  refine g_step rfl (s_val (v_lss rfl rfl) rfl rfl ?_)
                  refine g_nil ?_
                  refine g_next hK25 ?_
                  refine g_cond rfl (fun hc81 => ?_) (fun hc81 => ?_)
                  · try simp only [decide_eq_true_eq, decide_eq_false_iff_not, Bool.not_eq_true', Bool.not_eq_false', Bool.not_eq_eq_eq_not, Bool.not_true, Bool.not_false, Bool.and_eq_true, Bool.or_eq_true, Bool.or_eq_false_iff, beq_iff_eq, beq_eq_false_iff_ne, ne_eq, Int.not_lt, Int.not_le, Decidable.not_not] at hc81
                    obtain ⟨a, ha⟩ := get_some (l := acts) (k := k) (by omega)
                    have hba := hab a (mem_get ha)
                    refine g_skip ?_
                    refine g_next hK24 ?_
                    refine g_seq (fun K26 hK26 => ?_)
                    refine g_block ?_
                    refine g_seq (fun K27 hK27 => ?_)
                    refine g_draw (n := 12) (fun j => !([10] : List Nat).contains j) rfl rfl ?_
                    refine m_take 0 true rfl rfl (by kernel_rfl) (by kernel_rfl) (by kernel_rfl) (fun _ _ _ _ h => h) (by first | exact v_loadl_all ty61 rfl rfl rfl rfl rfl | exact v_loadl_part (cs := [_, _, _]) ty61 rfl rfl rfl rfl rfl rfl) rfl rfl ?_
                    refine m_take 1 false rfl rfl (by kernel_rfl) (by kernel_rfl) (by kernel_rfl) (fun _ _ _ _ h => h) (v_move rfl) rfl rfl ?_
                    refine m_take 2 false rfl rfl (by kernel_rfl) (by kernel_rfl) (by kernel_rfl) (fun _ _ _ _ h => h) (v_move rfl) rfl rfl ?_
                    refine m_take 3 false rfl rfl (by kernel_rfl) (by kernel_rfl) (by kernel_rfl) (fun _ _ _ _ h => h) (v_indexAddr ty58 ty65 rfl rfl (by first | rfl | assumption) (by first | rfl | exact (rfl : (0 : Int) = ((0 : Nat) : Int)) | exact (Int.toNat_of_nonneg (by omega)).symm) (map_get ha) rfl) rfl rfl ?_
                    refine m_take 4 true rfl rfl (by kernel_rfl) (by kernel_rfl) (by kernel_rfl) (fun _ _ _ _ h => h) (by first | exact v_load_elt ty65 rfl rfl (by first | rfl | assumption) (map_get ha) rfl rfl | exact v_load_box_all ty65 rfl rfl (by assumption) rfl rfl | exact v_load_part (cs := [_, _, _, _, _, _, _, _]) ty65 rfl rfl (by first | rfl | assumption) (map_get ha) rfl rfl rfl | exact v_load_box_part (cs := [_, _, _, _, _, _, _, _]) ty65 rfl rfl (by assumption) rfl rfl rfl) rfl rfl ?_
                    refine m_all (is := [5, 9]) (by kernel_rfl) rfl (fun _ _ _ => trivial) (fun i hi => ?_)
                    rcases (by simpa using hi : i = 5 ∨ i = 9) with rfl | rfl
                    · refine ⟨_, rfl, .inl ⟨rfl, ?_⟩⟩
                      refine sm_callp rfl rfl rfl (do25_ok own.id room l a _ hm hba) ?_
                      rintro _ rfl
                      refine m_take 6 false rfl rfl (by kernel_rfl) (by kernel_rfl) (by kernel_rfl) (fun _ _ _ _ h => h) (v_move rfl) rfl rfl ?_
                      refine m_take 7 false rfl rfl (by kernel_rfl) (by kernel_rfl) (by kernel_rfl) (fun _ _ _ _ h => h) (v_extract rfl rfl) rfl rfl ?_
                      refine m_take 8 false rfl rfl (by kernel_rfl) (by kernel_rfl) (by kernel_rfl) (fun _ _ _ _ h => h) (v_extract rfl rfl) rfl rfl ?_
                      refine m_one 9 (by kernel_rfl) rfl rfl ?_
                      refine sm_alloc (av := (.agg [(.int .i64 0), (.int .i64 0), .nil0])) ty61 rfl rfl rfl rfl ?_
                      refine m_one 10 (by kernel_rfl) rfl rfl ?_
                      refine sm_any rfl (s_store_all ty61 rfl rfl rfl rfl rfl rfl ?_)
                      refine m_take 11 false rfl rfl (by kernel_rfl) (by kernel_rfl) (by kernel_rfl) (fun _ _ _ _ h => h) (v_assign rfl) rfl rfl ?_
                      refine m_done (by kernel_rfl) ?_
                      refine g_next hK27 ?_
                      refine g_seq (fun K28 hK28 => ?_)
                      refine g_seq (fun K29 hK29 => ?_)
                      refine g_region ?_
                      refine g_step rfl (s_val (v_move rfl) rfl rfl ?_)
                      refine g_step rfl (s_val (v_move rfl) rfl rfl ?_)
                      refine g_step rfl (s_val (v_move rfl) rfl rfl ?_)
                      refine g_step rfl (s_val (v_indexAddr ty58 ty65 rfl rfl (by first | rfl | assumption) (by first | rfl | exact (rfl : (0 : Int) = ((0 : Nat) : Int)) | exact (Int.toNat_of_nonneg (by omega)).symm) (map_get ha) rfl) rfl rfl ?_)
                      refine g_step rfl (s_val (by first | exact v_load_elt ty65 rfl rfl (by first | rfl | assumption) (map_get ha) rfl rfl | exact v_load_box_all ty65 rfl rfl (by assumption) rfl rfl | exact v_load_part (cs := [_, _, _, _, _, _, _, _]) ty65 rfl rfl (by first | rfl | assumption) (map_get ha) rfl rfl rfl | exact v_load_box_part (cs := [_, _, _, _, _, _, _, _]) ty65 rfl rfl (by assumption) rfl rfl rfl) rfl rfl ?_)
                      refine g_step rfl (s_call rfl rfl rfl (play25_ok p r own.id room l a _ hT hm hba) (fun b hb => .inr (by rcases hb with rfl | rfl; exact hnp; exact hnr)) ?_)
                      rintro n2 rv2 effs2 hn2 hdom2 ⟨rfl, hTE⟩ hok2
                      obtain ⟨r2, hT2, _, hnr2, hsub2⟩ := MSt.step hw0 hT hnp hnr hsub hn2 hdom2 hTE
                      obtain ⟨o, ho⟩ := hm.o
                      obtain ⟨hm2, _, _⟩ := do_step hm ho hba
                      clear hTE hok2
                      generalize setAll _ effs2 = G2 at hT2 hsub2 ⊢
                      have hl482 := hm2.len
                      refine g_step rfl (s_val (v_move rfl) rfl rfl ?_)
                      refine g_step rfl (s_val (v_neq rfl rfl) rfl rfl ?_)
                      refine g_nil ?_
                      refine g_next hK29 ?_
                      first | refine g_keep [2, 3, 4, 11, 14, 100] [5, 13, 15] [5, 13, 15] (keep_cons rfl (keep_cons rfl (keep_cons rfl (keep_cons rfl (keep_cons rfl (keep_cons rfl keep_nil)))))) (lkeep_cons rfl (lkeep_cons rfl (lkeep_cons rfl lkeep_nil))) (keep_cons rfl (keep_cons rfl (keep_cons rfl keep_nil))) rfl ?_ | refine g_keep [2, 3, 4, 11, 14, 100] [5, 13, 15] [5, 13, 15] rfl rfl rfl rfl ?_
                      refine g_cond rfl (fun hc100 => ?_) (fun hc100 => ?_)
                      · exfalso; (try simp only [decide_eq_true_eq, decide_eq_false_iff_not, Bool.not_eq_true', Bool.not_eq_false', Bool.not_eq_eq_eq_not, Bool.not_true, Bool.not_false, Bool.and_eq_true, Bool.or_eq_true, Bool.or_eq_false_iff, beq_iff_eq, beq_eq_false_iff_ne, ne_eq, Int.not_lt, Int.not_le, Decidable.not_not] at hc100); simp at hc100
                      · try simp only [decide_eq_true_eq, decide_eq_false_iff_not, Bool.not_eq_true', Bool.not_eq_false', Bool.not_eq_eq_eq_not, Bool.not_true, Bool.not_false, Bool.and_eq_true, Bool.or_eq_true, Bool.or_eq_false_iff, beq_iff_eq, beq_eq_false_iff_ne, ne_eq, Int.not_lt, Int.not_le, Decidable.not_not] at hc100
                        refine g_skip ?_
                        refine g_next hK28 ?_
                        refine g_seq (fun K30 hK30 => ?_)
                        refine g_region ?_
                        refine g_step rfl (s_val (by first | exact v_loadl_all ty61 rfl rfl rfl rfl rfl | exact v_loadl_part (cs := [_, _, _]) ty61 rfl rfl rfl rfl rfl rfl) rfl rfl ?_)
                        refine g_step rfl (s_store_all ty61 rfl rfl rfl rfl rfl rfl ?_)
                        refine g_nil ?_
                        refine g_next hK30 ?_
                        refine g_seq (fun K31 hK31 => ?_)
                        refine g_draw (n := 6) (fun j => !([] : List Nat).contains j) rfl rfl ?_
                        refine m_take 0 false rfl rfl (by kernel_rfl) (by kernel_rfl) (by kernel_rfl) (fun _ _ _ _ h => h) (v_move rfl) rfl rfl ?_
                        refine m_takel 2 rfl rfl (by kernel_rfl) (by kernel_rfl) (by kernel_rfl) (fun _ _ _ _ h => h) (vl_fieldAddr ty61 fo61_2 ty22 rfl) rfl rfl ?_
                        refine m_take 3 true rfl rfl (by kernel_rfl) (by kernel_rfl) (by kernel_rfl) (fun _ _ _ _ h => h) (v_loadl ty22 rfl rfl rfl rfl) rfl rfl ?_
                        refine m_one 1 (by kernel_rfl) rfl rfl ?_
                        refine sm_callp rfl rfl rfl (mall_ok p r2 own.id room (doL own.id room l a).1 _ hT2 (by omega) hm2.b) ?_
                        rintro _ rfl
                        refine m_one 4 (by kernel_rfl) rfl rfl ?_
                        refine sm_callp rfl rfl rfl (allAlike_ok (doL own.id room l a).1 (doL own.id room l a).1 _ _ _ rfl rfl (by omega) hm2.b) ?_
                        rintro _ rfl
                        refine m_take 5 false rfl rfl (by kernel_rfl) (by kernel_rfl) (by kernel_rfl) (fun _ _ _ _ h => h) (v_not rfl) rfl rfl ?_
                        refine m_done (by kernel_rfl) ?_
                        refine g_next hK31 ?_
                        refine g_cond rfl (fun hc107 => ?_) (fun hc107 => ?_)
                        · exfalso; (try simp only [decide_eq_true_eq, decide_eq_false_iff_not, Bool.not_eq_true', Bool.not_eq_false', Bool.not_eq_eq_eq_not, Bool.not_true, Bool.not_false, Bool.and_eq_true, Bool.or_eq_true, Bool.or_eq_false_iff, beq_iff_eq, beq_eq_false_iff_ne, ne_eq, Int.not_lt, Int.not_le, Decidable.not_not] at hc107); simp at hc107
                        · try simp only [decide_eq_true_eq, decide_eq_false_iff_not, Bool.not_eq_true', Bool.not_eq_false', Bool.not_eq_eq_eq_not, Bool.not_true, Bool.not_false, Bool.and_eq_true, Bool.or_eq_true, Bool.or_eq_false_iff, beq_iff_eq, beq_eq_false_iff_ne, ne_eq, Int.not_lt, Int.not_le, Decidable.not_not] at hc107
                          refine g_skip ?_
                          refine g_block_normal ?_
                          refine g_next hK26 ?_
                          refine g_region ?_
                          refine g_step rfl (s_val (v_move rfl) rfl rfl ?_)
                          refine g_step rfl (s_val (v_add rfl rfl (by omega)) rfl rfl ?_)
                          refine g_step rfl (s_val (v_assign rfl) rfl rfl ?_)
                          refine g_nil ?_
                          first | refine g_keep [2, 3, 4, 11, 14] [5, 13] [5, 13] (keep_cons rfl (keep_cons rfl (keep_cons rfl (keep_cons rfl (keep_cons rfl keep_nil))))) (lkeep_cons rfl (lkeep_cons rfl lkeep_nil)) (keep_cons rfl (keep_cons rfl keep_nil)) rfl ?_ | refine g_keep [2, 3, 4, 11, 14] [5, 13] [5, 13] rfl rfl rfl rfl ?_
                          exact g_round _ (by omega) ⟨k + 1, _, r2, by omega, rfl, rfl, rfl, rfl, ⟨hT2, hnr2, hsub2, hm2⟩⟩
                    · refine ⟨_, rfl, .inl ⟨rfl, ?_⟩⟩
                      refine sm_alloc (av := (.agg [(.int .i64 0), (.int .i64 0), .nil0])) ty61 rfl rfl rfl rfl ?_
                      refine m_one 5 (by kernel_rfl) rfl rfl ?_
                      refine sm_callp rfl rfl rfl (do25_ok own.id room l a _ hm hba) ?_
                      rintro _ rfl
                      refine m_take 6 false rfl rfl (by kernel_rfl) (by kernel_rfl) (by kernel_rfl) (fun _ _ _ _ h => h) (v_move rfl) rfl rfl ?_
                      refine m_take 7 false rfl rfl (by kernel_rfl) (by kernel_rfl) (by kernel_rfl) (fun _ _ _ _ h => h) (v_extract rfl rfl) rfl rfl ?_
                      refine m_take 8 false rfl rfl (by kernel_rfl) (by kernel_rfl) (by kernel_rfl) (fun _ _ _ _ h => h) (v_extract rfl rfl) rfl rfl ?_
                      refine m_one 10 (by kernel_rfl) rfl rfl ?_
                      refine sm_any rfl (s_store_all ty61 rfl rfl rfl rfl rfl rfl ?_)
                      refine m_take 11 false rfl rfl (by kernel_rfl) (by kernel_rfl) (by kernel_rfl) (fun _ _ _ _ h => h) (v_assign rfl) rfl rfl ?_
                      refine m_done (by kernel_rfl) ?_
                      refine g_next hK27 ?_
                      refine g_seq (fun K32 hK32 => ?_)
                      refine g_seq (fun K33 hK33 => ?_)
                      refine g_region ?_
                      refine g_step rfl (s_val (v_move rfl) rfl rfl ?_)
                      refine g_step rfl (s_val (v_move rfl) rfl rfl ?_)
                      refine g_step rfl (s_val (v_move rfl) rfl rfl ?_)
                      refine g_step rfl (s_val (v_indexAddr ty58 ty65 rfl rfl (by first | rfl | assumption) (by first | rfl | exact (rfl : (0 : Int) = ((0 : Nat) : Int)) | exact (Int.toNat_of_nonneg (by omega)).symm) (map_get ha) rfl) rfl rfl ?_)
                      refine g_step rfl (s_val (by first | exact v_load_elt ty65 rfl rfl (by first | rfl | assumption) (map_get ha) rfl rfl | exact v_load_box_all ty65 rfl rfl (by assumption) rfl rfl | exact v_load_part (cs := [_, _, _, _, _, _, _, _]) ty65 rfl rfl (by first | rfl | assumption) (map_get ha) rfl rfl rfl | exact v_load_box_part (cs := [_, _, _, _, _, _, _, _]) ty65 rfl rfl (by assumption) rfl rfl rfl) rfl rfl ?_)
                      refine g_step rfl (s_call rfl rfl rfl (play25_ok p r own.id room l a _ hT hm hba) (fun b hb => .inr (by rcases hb with rfl | rfl; exact hnp; exact hnr)) ?_)
                      rintro n2 rv2 effs2 hn2 hdom2 ⟨rfl, hTE⟩ hok2
                      obtain ⟨r2, hT2, _, hnr2, hsub2⟩ := MSt.step hw0 hT hnp hnr hsub hn2 hdom2 hTE
                      obtain ⟨o, ho⟩ := hm.o
                      obtain ⟨hm2, _, _⟩ := do_step hm ho hba
                      clear hTE hok2
                      generalize setAll _ effs2 = G2 at hT2 hsub2 ⊢
                      have hl482 := hm2.len
                      refine g_step rfl (s_val (v_move rfl) rfl rfl ?_)
                      refine g_step rfl (s_val (v_neq rfl rfl) rfl rfl ?_)
                      refine g_nil ?_
                      refine g_next hK33 ?_
                      first | refine g_keep [2, 3, 4, 11, 14, 100] [5, 13, 15] [5, 13, 15] (keep_cons rfl (keep_cons rfl (keep_cons rfl (keep_cons rfl (keep_cons rfl (keep_cons rfl keep_nil)))))) (lkeep_cons rfl (lkeep_cons rfl (lkeep_cons rfl lkeep_nil))) (keep_cons rfl (keep_cons rfl (keep_cons rfl keep_nil))) rfl ?_ | refine g_keep [2, 3, 4, 11, 14, 100] [5, 13, 15] [5, 13, 15] rfl rfl rfl rfl ?_
                      refine g_cond rfl (fun hc100 => ?_) (fun hc100 => ?_)
                      · exfalso; (try simp only [decide_eq_true_eq, decide_eq_false_iff_not, Bool.not_eq_true', Bool.not_eq_false', Bool.not_eq_eq_eq_not, Bool.not_true, Bool.not_false, Bool.and_eq_true, Bool.or_eq_true, Bool.or_eq_false_iff, beq_iff_eq, beq_eq_false_iff_ne, ne_eq, Int.not_lt, Int.not_le, Decidable.not_not] at hc100); simp at hc100
                      · try simp only [decide_eq_true_eq, decide_eq_false_iff_not, Bool.not_eq_true', Bool.not_eq_false', Bool.not_eq_eq_eq_not, Bool.not_true, Bool.not_false, Bool.and_eq_true, Bool.or_eq_true, Bool.or_eq_false_iff, beq_iff_eq, beq_eq_false_iff_ne, ne_eq, Int.not_lt, Int.not_le, Decidable.not_not] at hc100
                        refine g_skip ?_
                        refine g_next hK32 ?_
                        refine g_seq (fun K34 hK34 => ?_)
                        refine g_region ?_
                        refine g_step rfl (s_val (by first | exact v_loadl_all ty61 rfl rfl rfl rfl rfl | exact v_loadl_part (cs := [_, _, _]) ty61 rfl rfl rfl rfl rfl rfl) rfl rfl ?_)
                        refine g_step rfl (s_store_all ty61 rfl rfl rfl rfl rfl rfl ?_)
                        refine g_nil ?_
                        refine g_next hK34 ?_
                        refine g_seq (fun K35 hK35 => ?_)
                        refine g_draw (n := 6) (fun j => !([] : List Nat).contains j) rfl rfl ?_
                        refine m_take 0 false rfl rfl (by kernel_rfl) (by kernel_rfl) (by kernel_rfl) (fun _ _ _ _ h => h) (v_move rfl) rfl rfl ?_
                        refine m_takel 2 rfl rfl (by kernel_rfl) (by kernel_rfl) (by kernel_rfl) (fun _ _ _ _ h => h) (vl_fieldAddr ty61 fo61_2 ty22 rfl) rfl rfl ?_
                        refine m_take 3 true rfl rfl (by kernel_rfl) (by kernel_rfl) (by kernel_rfl) (fun _ _ _ _ h => h) (v_loadl ty22 rfl rfl rfl rfl) rfl rfl ?_
                        refine m_one 1 (by kernel_rfl) rfl rfl ?_
                        refine sm_callp rfl rfl rfl (mall_ok p r2 own.id room (doL own.id room l a).1 _ hT2 (by omega) hm2.b) ?_
                        rintro _ rfl
                        refine m_one 4 (by kernel_rfl) rfl rfl ?_
                        refine sm_callp rfl rfl rfl (allAlike_ok (doL own.id room l a).1 (doL own.id room l a).1 _ _ _ rfl rfl (by omega) hm2.b) ?_
                        rintro _ rfl
                        refine m_take 5 false rfl rfl (by kernel_rfl) (by kernel_rfl) (by kernel_rfl) (fun _ _ _ _ h => h) (v_not rfl) rfl rfl ?_
                        refine m_done (by kernel_rfl) ?_
                        refine g_next hK35 ?_
                        refine g_cond rfl (fun hc107 => ?_) (fun hc107 => ?_)
                        · exfalso; (try simp only [decide_eq_true_eq, decide_eq_false_iff_not, Bool.not_eq_true', Bool.not_eq_false', Bool.not_eq_eq_eq_not, Bool.not_true, Bool.not_false, Bool.and_eq_true, Bool.or_eq_true, Bool.or_eq_false_iff, beq_iff_eq, beq_eq_false_iff_ne, ne_eq, Int.not_lt, Int.not_le, Decidable.not_not] at hc107); simp at hc107
                        · try simp only [decide_eq_true_eq, decide_eq_false_iff_not, Bool.not_eq_true', Bool.not_eq_false', Bool.not_eq_eq_eq_not, Bool.not_true, Bool.not_false, Bool.and_eq_true, Bool.or_eq_true, Bool.or_eq_false_iff, beq_iff_eq, beq_eq_false_iff_ne, ne_eq, Int.not_lt, Int.not_le, Decidable.not_not] at hc107
                          refine g_skip ?_
                          refine g_block_normal ?_
                          refine g_next hK26 ?_
                          refine g_region ?_
                          refine g_step rfl (s_val (v_move rfl) rfl rfl ?_)
                          refine g_step rfl (s_val (v_add rfl rfl (by omega)) rfl rfl ?_)
                          refine g_step rfl (s_val (v_assign rfl) rfl rfl ?_)
                          refine g_nil ?_
                          first | refine g_keep [2, 3, 4, 11, 14] [5, 13] [5, 13] (keep_cons rfl (keep_cons rfl (keep_cons rfl (keep_cons rfl (keep_cons rfl keep_nil))))) (lkeep_cons rfl (lkeep_cons rfl lkeep_nil)) (keep_cons rfl (keep_cons rfl keep_nil)) rfl ?_ | refine g_keep [2, 3, 4, 11, 14] [5, 13] [5, 13] rfl rfl rfl rfl ?_
                          exact g_round _ (by omega) ⟨k + 1, _, r2, by omega, rfl, rfl, rfl, rfl, ⟨hT2, hnr2, hsub2, hm2⟩⟩
                  · try simp only [decide_eq_true_eq, decide_eq_false_iff_not, Bool.not_eq_true', Bool.not_eq_false', Bool.not_eq_eq_eq_not, Bool.not_true, Bool.not_false, Bool.and_eq_true, Bool.or_eq_true, Bool.or_eq_false_iff, beq_iff_eq, beq_eq_false_iff_ne, ne_eq, Int.not_lt, Int.not_le, Decidable.not_not] at hc81
                    obtain rfl : k = acts.length := by omega
                    have hs := hm.b
                    have hl48 := hm.len
                    have hsI : Small (rfind l id).1.bag := rfind_small hs
                    have hsM : Small (rfind l own.id).1.bag := rfind_small hs
                    refine g_exit ?_
                    refine g_then_exit ?_
                    refine g_then_exit ?_
                    refine g_block_same ?_
                    refine g_next hK22 ?_
                    refine g_seq (fun K36 hK36 => ?_)
                    refine g_region ?_
                    refine g_step rfl (s_val (v_move rfl) rfl rfl ?_)
                    refine g_step rfl (s_val (v_move rfl) rfl rfl ?_)
                    refine g_step rfl (s_callp rfl rfl rfl (mget_ok p r own.id room l id _ hT (by omega) hs) ?_)
                    rintro _ rfl
                    refine g_step rfl (s_val (v_move rfl) rfl rfl ?_)
                    refine g_step rfl (s_val (v_extract rfl rfl) rfl rfl ?_)
                    refine g_step rfl (s_val (v_extract rfl rfl) rfl rfl ?_)
                    refine g_step rfl (s_alloc (av := (.agg [(.int .i64 0), (.int .i64 0), (.int .i64 0), (.int .i64 0), (.int .i64 0), (.bool false), .nil0])) ty46 rfl rfl rfl rfl ?_)
                    refine g_step rfl (s_store_all ty46 rfl rfl rfl rfl rfl rfl ?_)
                    refine g_step rfl (s_val (v_assign rfl) rfl rfl ?_)
                    refine g_nil ?_
                    refine g_next hK36 ?_
                    refine g_seq (fun K37 hK37 => ?_)
                    refine g_region ?_
                    refine g_step rfl (s_fieldAddr ty61 fo61_2 ty22 rfl rfl ?_)
                    refine g_step rfl (s_val (v_loadl ty22 rfl rfl rfl rfl) rfl rfl ?_)
                    refine g_step rfl (s_val (v_move rfl) rfl rfl ?_)
                    refine g_step rfl (s_callp rfl rfl rfl (find_ok l id _ _ rfl (by omega) hs) ?_)
                    rintro _ rfl
                    refine g_step rfl (s_val (v_move rfl) rfl rfl ?_)
                    refine g_step rfl (s_val (v_extract rfl rfl) rfl rfl ?_)
                    refine g_step rfl (s_val (v_extract rfl rfl) rfl rfl ?_)
                    refine g_step rfl (s_alloc (av := (.agg [(.int .i64 0), (.int .i64 0), (.int .i64 0), (.int .i64 0), (.int .i64 0), (.bool false), .nil0])) ty46 rfl rfl rfl rfl ?_)
                    refine g_step rfl (s_store_all ty46 rfl rfl rfl rfl rfl rfl ?_)
                    refine g_step rfl (s_val (v_assign rfl) rfl rfl ?_)
                    refine g_nil ?_
                    refine g_next hK37 ?_
                    refine g_seq (fun K38 hK38 => ?_)
                    refine g_region ?_
                    refine g_step rfl (s_fieldAddr ty61 fo61_2 ty22 rfl rfl ?_)
                    refine g_step rfl (s_val (v_loadl ty22 rfl rfl rfl rfl) rfl rfl ?_)
                    refine g_step rfl (s_fieldAddr ty46 fo46_0 ty3 rfl rfl ?_)
                    refine g_step rfl (s_val (v_loadl ty3 rfl rfl rfl rfl) rfl rfl ?_)
                    refine g_step rfl (s_callp rfl rfl rfl (find_ok l own.id _ _ rfl (by omega) hs) ?_)
                    rintro _ rfl
                    refine g_step rfl (s_val (v_move rfl) rfl rfl ?_)
                    refine g_step rfl (s_val (v_extract rfl rfl) rfl rfl ?_)
                    refine g_step rfl (s_val (v_extract rfl rfl) rfl rfl ?_)
                    refine g_step rfl (s_alloc (av := (.agg [(.int .i64 0), (.int .i64 0), (.int .i64 0), (.int .i64 0), (.int .i64 0), (.bool false), .nil0])) ty46 rfl rfl rfl rfl ?_)
                    refine g_step rfl (s_store_all ty46 rfl rfl rfl rfl rfl rfl ?_)
                    refine g_step rfl (s_val (v_assign rfl) rfl rfl ?_)
                    refine g_nil ?_
                    refine g_next hK38 ?_
                    first | refine g_keep [4, 11, 18, 20] [13, 17, 19, 21] [13, 17, 19, 21] (keep_cons rfl (keep_cons rfl (keep_cons rfl (keep_cons rfl keep_nil)))) (lkeep_cons rfl (lkeep_cons rfl (lkeep_cons rfl (lkeep_cons rfl lkeep_nil)))) (keep_cons rfl (keep_cons rfl (keep_cons rfl (keep_cons rfl keep_nil)))) rfl ?_ | refine g_keep [4, 11, 18, 20] [13, 17, 19, 21] [13, 17, 19, 21] rfl rfl rfl rfl ?_
                    refine g_seq (fun K39 hK39 => ?_)
                    refine g_seq (fun K40 hK40 => ?_)
                    refine g_draw (n := 16) (fun j => !([] : List Nat).contains j) rfl rfl ?_
                    refine m_take 0 false rfl rfl (by kernel_rfl) (by kernel_rfl) (by kernel_rfl) (fun _ _ _ _ h => h) (v_move rfl) rfl rfl ?_
                    refine m_take 1 false rfl rfl (by kernel_rfl) (by kernel_rfl) (by kernel_rfl) (fun _ _ _ _ h => h) (v_move rfl) rfl rfl ?_
                    refine m_take 2 false rfl rfl (by kernel_rfl) (by kernel_rfl) (by kernel_rfl) (fun _ _ _ _ h => h) (v_bool_neq ty4 rfl rfl) rfl rfl ?_
                    refine m_take 3 false rfl rfl (by kernel_rfl) (by kernel_rfl) (by kernel_rfl) (fun _ _ _ _ h => h) (v_move rfl) rfl rfl ?_
                    refine m_split 132 rfl (fun hg132 => ?_) (fun hg132 => ?_)
                    · exfalso; (try simp only [decide_eq_true_eq, decide_eq_false_iff_not, Bool.not_eq_true', Bool.not_eq_false', Bool.not_eq_eq_eq_not, Bool.not_true, Bool.not_false, Bool.and_eq_true, Bool.or_eq_true, Bool.or_eq_false_iff, beq_iff_eq, beq_eq_false_iff_ne, ne_eq, Int.not_lt, Int.not_le, Decidable.not_not] at hg132); simp at hg132
                    · try simp only [decide_eq_true_eq, decide_eq_false_iff_not, Bool.not_eq_true', Bool.not_eq_false', Bool.not_eq_eq_eq_not, Bool.not_true, Bool.not_false, Bool.and_eq_true, Bool.or_eq_true, Bool.or_eq_false_iff, beq_iff_eq, beq_eq_false_iff_ne, ne_eq, Int.not_lt, Int.not_le, Decidable.not_not] at hg132
                      refine m_take_yes (j := 3) (t := 132) 4 true rfl rfl rfl rfl rfl (by kernel_rfl) (by kernel_rfl) (by kernel_rfl) (fun _ _ _ _ h => h) (by first | exact v_loadl_all ty46 rfl rfl rfl rfl rfl | exact v_loadl_part (cs := [_, _, _, _, _, _, _]) ty46 rfl rfl rfl rfl rfl rfl) rfl rfl ?_
                      refine m_take_yes (j := 3) (t := 132) 5 true rfl rfl rfl rfl rfl (by kernel_rfl) (by kernel_rfl) (by kernel_rfl) (fun _ _ _ _ h => h) (by first | exact v_loadl_all ty46 rfl rfl rfl rfl rfl | exact v_loadl_part (cs := [_, _, _, _, _, _, _]) ty46 rfl rfl rfl rfl rfl rfl) rfl rfl ?_
                      refine m_one_yes (j := 3) (t := 132) 6 (by kernel_rfl) rfl rfl rfl rfl rfl ?_
                      refine sm_callp rfl rfl rfl (alike_ok (rfind l id).1 (rfind l id).1 _ hsI) ?_
                      rintro _ rfl
                      refine m_take_yes (j := 3) (t := 132) 7 false rfl rfl rfl rfl rfl (by kernel_rfl) (by kernel_rfl) (by kernel_rfl) (fun _ _ _ _ h => h) (v_not rfl) rfl rfl ?_
                      refine m_take 8 false rfl rfl (by kernel_rfl) (by kernel_rfl) (by kernel_rfl) (fun _ _ _ _ h => h) (v_pick_f rfl rfl) rfl rfl ?_
                      refine m_take 9 false rfl rfl (by kernel_rfl) (by kernel_rfl) (by kernel_rfl) (fun _ _ _ _ h => h) (v_move rfl) rfl rfl ?_
                      refine m_split 138 rfl (fun hg138 => ?_) (fun hg138 => ?_)
                      · exfalso; (try simp only [decide_eq_true_eq, decide_eq_false_iff_not, Bool.not_eq_true', Bool.not_eq_false', Bool.not_eq_eq_eq_not, Bool.not_true, Bool.not_false, Bool.and_eq_true, Bool.or_eq_true, Bool.or_eq_false_iff, beq_iff_eq, beq_eq_false_iff_ne, ne_eq, Int.not_lt, Int.not_le, Decidable.not_not] at hg138); simp at hg138
                      · try simp only [decide_eq_true_eq, decide_eq_false_iff_not, Bool.not_eq_true', Bool.not_eq_false', Bool.not_eq_eq_eq_not, Bool.not_true, Bool.not_false, Bool.and_eq_true, Bool.or_eq_true, Bool.or_eq_false_iff, beq_iff_eq, beq_eq_false_iff_ne, ne_eq, Int.not_lt, Int.not_le, Decidable.not_not] at hg138
                        refine m_take_yes (j := 9) (t := 138) 10 false rfl rfl rfl rfl rfl (by kernel_rfl) (by kernel_rfl) (by kernel_rfl) (fun _ _ _ _ h => h) (v_move rfl) rfl rfl ?_
                        refine m_take_yes (j := 9) (t := 138) 12 true rfl rfl rfl rfl rfl (by kernel_rfl) (by kernel_rfl) (by kernel_rfl) (fun _ _ _ _ h => h) (by first | exact v_loadl_all ty46 rfl rfl rfl rfl rfl | exact v_loadl_part (cs := [_, _, _, _, _, _, _]) ty46 rfl rfl rfl rfl rfl rfl) rfl rfl ?_
                        refine m_one_yes (j := 9) (t := 138) 11 (by kernel_rfl) rfl rfl rfl rfl rfl ?_
                        refine sm_callp rfl rfl rfl (mself_ok p r own.id room l _ hT (by omega) hs) ?_
                        rintro _ rfl
                        refine m_one_yes (j := 9) (t := 138) 13 (by kernel_rfl) rfl rfl rfl rfl rfl ?_
                        refine sm_callp rfl rfl rfl (alike_ok (rfind l own.id).1 (rfind l own.id).1 _ hsM) ?_
                        rintro _ rfl
                        refine m_take_yes (j := 9) (t := 138) 14 false rfl rfl rfl rfl rfl (by kernel_rfl) (by kernel_rfl) (by kernel_rfl) (fun _ _ _ _ h => h) (v_not rfl) rfl rfl ?_
                        refine m_take 15 false rfl rfl (by kernel_rfl) (by kernel_rfl) (by kernel_rfl) (fun _ _ _ _ h => h) (v_pick_f rfl rfl) rfl rfl ?_
                        refine m_done (by kernel_rfl) ?_
                        refine g_next hK40 ?_
                        refine g_cond rfl (fun hc144 => ?_) (fun hc144 => ?_)
                        · exfalso; (try simp only [decide_eq_true_eq, decide_eq_false_iff_not, Bool.not_eq_true', Bool.not_eq_false', Bool.not_eq_eq_eq_not, Bool.not_true, Bool.not_false, Bool.and_eq_true, Bool.or_eq_true, Bool.or_eq_false_iff, beq_iff_eq, beq_eq_false_iff_ne, ne_eq, Int.not_lt, Int.not_le, Decidable.not_not] at hc144); simp at hc144
                        · try simp only [decide_eq_true_eq, decide_eq_false_iff_not, Bool.not_eq_true', Bool.not_eq_false', Bool.not_eq_eq_eq_not, Bool.not_true, Bool.not_false, Bool.and_eq_true, Bool.or_eq_true, Bool.or_eq_false_iff, beq_iff_eq, beq_eq_false_iff_ne, ne_eq, Int.not_lt, Int.not_le, Decidable.not_not] at hc144
                          refine g_skip ?_
                          refine g_next hK39 ?_
                          refine g_seq (fun K41 hK41 => ?_)
                          refine g_draw (n := 23) (fun j => !([] : List Nat).contains j) rfl rfl ?_
                          refine m_take 0 false rfl rfl (by kernel_rfl) (by kernel_rfl) (by kernel_rfl) (fun _ _ _ _ h => h) (v_move rfl) rfl rfl ?_
                          refine m_take 2 true rfl rfl (by kernel_rfl) (by kernel_rfl) (by kernel_rfl) (fun _ _ _ _ h => h) (by first | exact v_loadl_all ty61 rfl rfl rfl rfl rfl | exact v_loadl_part (cs := [_, _, _]) ty61 rfl rfl rfl rfl rfl rfl) rfl rfl ?_
                          refine m_one 1 (by kernel_rfl) rfl rfl ?_
                          refine sm_callp rfl rfl rfl (others_ok p r own.id room l [] .nil0 _ hT (by omega) hs rfl (by simp)) ?_
                          rintro _ rfl
                          rw [oth_all]
                          refine m_one 3 (by kernel_rfl) rfl rfl ?_
                          refine sm_callp rfl rfl rfl (others25_ok own.id room (-1) l _ (by omega)) ?_
                          rintro _ rfl
                          refine m_one 4 (by kernel_rfl) rfl rfl ?_
                          refine sm_callp rfl rfl rfl (same25_ok (othT own.id l (-1)) (othT own.id l (-1)) _ _ _ rfl rfl (by have := oth_len (p := othR own.id (-1)) (l := l) (k := l.length); rw [List.take_length] at this; unfold othT; omega)) ?_
                          rintro _ rfl
                          refine m_take 5 false rfl rfl (by kernel_rfl) (by kernel_rfl) (by kernel_rfl) (fun _ _ _ _ h => h) (v_move rfl) rfl rfl ?_
                          refine m_split 150 rfl (fun hg150 => ?_) (fun hg150 => ?_)
                          · try simp only [decide_eq_true_eq, decide_eq_false_iff_not, Bool.not_eq_true', Bool.not_eq_false', Bool.not_eq_eq_eq_not, Bool.not_true, Bool.not_false, Bool.and_eq_true, Bool.or_eq_true, Bool.or_eq_false_iff, beq_iff_eq, beq_eq_false_iff_ne, ne_eq, Int.not_lt, Int.not_le, Decidable.not_not] at hg150
                            refine m_take_yes (j := 5) (t := 150) 6 false rfl rfl rfl rfl rfl (by kernel_rfl) (by kernel_rfl) (by kernel_rfl) (fun _ _ _ _ h => h) (v_move rfl) rfl rfl ?_
                            refine m_take_yes (j := 5) (t := 150) 7 false rfl rfl rfl rfl rfl (by kernel_rfl) (by kernel_rfl) (by kernel_rfl) (fun _ _ _ _ h => h) (v_lss rfl rfl) rfl rfl ?_
                            refine m_take_yes (j := 5) (t := 150) 8 false rfl rfl rfl rfl rfl (by kernel_rfl) (by kernel_rfl) (by kernel_rfl) (fun _ _ _ _ h => h) (v_move rfl) rfl rfl ?_
                            refine m_split 153 rfl (fun hg153 => ?_) (fun hg153 => ?_)
                            · try simp only [decide_eq_true_eq, decide_eq_false_iff_not, Bool.not_eq_true', Bool.not_eq_false', Bool.not_eq_eq_eq_not, Bool.not_true, Bool.not_false, Bool.and_eq_true, Bool.or_eq_true, Bool.or_eq_false_iff, beq_iff_eq, beq_eq_false_iff_ne, ne_eq, Int.not_lt, Int.not_le, Decidable.not_not] at hg153
                              refine m_take_no (j := 8) (t := 153) 9 rfl rfl rfl rfl rfl rfl (by kernel_rfl) (by kernel_rfl) (by kernel_rfl) (fun _ _ _ _ h => h) rfl rfl ?_
                              refine m_take_no (j := 8) (t := 153) 10 rfl rfl rfl rfl rfl rfl (by kernel_rfl) (by kernel_rfl) (by kernel_rfl) (fun _ _ _ _ h => h) rfl rfl ?_
                              refine m_take_no (j := 8) (t := 153) 11 rfl rfl rfl rfl rfl rfl (by kernel_rfl) (by kernel_rfl) (by kernel_rfl) (fun _ _ _ _ h => h) rfl rfl ?_
                              refine m_take_no (j := 8) (t := 153) 12 rfl rfl rfl rfl rfl rfl (by kernel_rfl) (by kernel_rfl) (by kernel_rfl) (fun _ _ _ _ h => h) rfl rfl ?_
                              refine m_take_no (j := 8) (t := 153) 13 rfl rfl rfl rfl rfl rfl (by kernel_rfl) (by kernel_rfl) (by kernel_rfl) (fun _ _ _ _ h => h) rfl rfl ?_
                              refine m_take_no (j := 8) (t := 153) 14 rfl rfl rfl rfl rfl rfl (by kernel_rfl) (by kernel_rfl) (by kernel_rfl) (fun _ _ _ _ h => h) rfl rfl ?_
                              refine m_take_no (j := 8) (t := 153) 15 rfl rfl rfl rfl rfl rfl (by kernel_rfl) (by kernel_rfl) (by kernel_rfl) (fun _ _ _ _ h => h) rfl rfl ?_
                              refine m_take_no (j := 8) (t := 153) 16 rfl rfl rfl rfl rfl rfl (by kernel_rfl) (by kernel_rfl) (by kernel_rfl) (fun _ _ _ _ h => h) rfl rfl ?_
                              refine m_take_yes (j := 5) (t := 150) 17 false rfl rfl rfl rfl rfl (by kernel_rfl) (by kernel_rfl) (by kernel_rfl) (fun _ _ _ _ h => h) (v_pick_t rfl rfl) rfl rfl ?_
                              refine m_take 18 false rfl rfl (by kernel_rfl) (by kernel_rfl) (by kernel_rfl) (fun _ _ _ _ h => h) (v_pick_t rfl rfl) rfl rfl ?_
                              refine m_take 19 false rfl rfl (by kernel_rfl) (by kernel_rfl) (by kernel_rfl) (fun _ _ _ _ h => h) (v_move rfl) rfl rfl ?_
                              refine m_one_yes (j := 19) (t := 164) 20 (by kernel_rfl) rfl rfl rfl rfl rfl ?_
                              refine sm_callp rfl rfl rfl (awake25_ok _) ?_
                              rintro _ rfl
                              refine m_take 21 false rfl rfl (by kernel_rfl) (by kernel_rfl) (by kernel_rfl) (fun _ _ _ _ h => h) (v_pick_t rfl rfl) rfl rfl ?_
                              refine m_take 22 false rfl rfl (by kernel_rfl) (by kernel_rfl) (by kernel_rfl) (fun _ _ _ _ h => h) (v_assign rfl) rfl rfl ?_
                              refine m_done (by kernel_rfl) ?_
                              refine g_next hK41 ?_
                              first | refine g_keep [10] [] [] (keep_cons rfl keep_nil) lkeep_nil keep_nil rfl ?_ | refine g_keep [10] [] [] rfl rfl rfl rfl ?_
                              refine g_ret ?_
                              refine g_end1 (.inl rfl) Try.results7 (.tmp rfl) [] (ASub.refl _) (by first | exact AHeap.sub_refl _ | exact hsub) (fun p hp => by cases hp) ⟨rfl, ?_⟩
                              rfl
                            · try simp only [decide_eq_true_eq, decide_eq_false_iff_not, Bool.not_eq_true', Bool.not_eq_false', Bool.not_eq_eq_eq_not, Bool.not_true, Bool.not_false, Bool.and_eq_true, Bool.or_eq_true, Bool.or_eq_false_iff, beq_iff_eq, beq_eq_false_iff_ne, ne_eq, Int.not_lt, Int.not_le, Decidable.not_not] at hg153
                              refine m_take_yes (j := 8) (t := 153) 9 false rfl rfl rfl rfl rfl (by kernel_rfl) (by kernel_rfl) (by kernel_rfl) (fun _ _ _ _ h => h) (v_move rfl) rfl rfl ?_
                              refine m_take_yes (j := 8) (t := 153) 10 false rfl rfl rfl rfl rfl (by kernel_rfl) (by kernel_rfl) (by kernel_rfl) (fun _ _ _ _ h => h) (v_move rfl) rfl rfl ?_
                              refine m_take_yes (j := 8) (t := 153) 13 true rfl rfl rfl rfl rfl (by kernel_rfl) (by kernel_rfl) (by kernel_rfl) (fun _ _ _ _ h => h) (by first | exact v_loadl_all ty61 rfl rfl rfl rfl rfl | exact v_loadl_part (cs := [_, _, _]) ty61 rfl rfl rfl rfl rfl rfl) rfl rfl ?_
                              refine m_take_yes (j := 8) (t := 153) 14 false rfl rfl rfl rfl rfl (by kernel_rfl) (by kernel_rfl) (by kernel_rfl) (fun _ _ _ _ h => h) (v_move rfl) rfl rfl ?_
                              refine m_one_yes (j := 8) (t := 153) 11 (by kernel_rfl) rfl rfl rfl rfl rfl ?_
                              refine sm_lit ty71 ty3 rfl rfl rfl rfl rfl rfl rfl ?_
                              refine m_one_yes (j := 8) (t := 153) 12 (by kernel_rfl) rfl rfl rfl rfl rfl ?_
                              refine sm_callp rfl rfl rfl (others_ok p r own.id room l [s] _ _ hT (by omega) hs rfl (by simp)) ?_
                              rintro _ rfl
                              rw [oth_one l (by omega)]
                              refine m_one_yes (j := 8) (t := 153) 15 (by kernel_rfl) rfl rfl rfl rfl rfl ?_
                              refine sm_callp rfl rfl rfl (others25_ok own.id room s l _ (by omega)) ?_
                              rintro _ rfl
                              refine m_one_yes (j := 8) (t := 153) 16 (by kernel_rfl) rfl rfl rfl rfl rfl ?_
                              refine sm_callp rfl rfl rfl (same25_ok (othT own.id l s) (othT own.id l s) _ _ _ rfl rfl (by have := oth_len (p := othR own.id s) (l := l) (k := l.length); rw [List.take_length] at this; unfold othT; omega)) ?_
                              rintro _ rfl
                              refine m_take_yes (j := 5) (t := 150) 17 false rfl rfl rfl rfl rfl (by kernel_rfl) (by kernel_rfl) (by kernel_rfl) (fun _ _ _ _ h => h) (v_pick_f rfl rfl) rfl rfl ?_
                              refine m_take 18 false rfl rfl (by kernel_rfl) (by kernel_rfl) (by kernel_rfl) (fun _ _ _ _ h => h) (v_pick_t rfl rfl) rfl rfl ?_
                              refine m_take 19 false rfl rfl (by kernel_rfl) (by kernel_rfl) (by kernel_rfl) (fun _ _ _ _ h => h) (v_move rfl) rfl rfl ?_
                              refine m_split 164 rfl (fun hg164 => ?_) (fun hg164 => ?_)
                              · try simp only [decide_eq_true_eq, decide_eq_false_iff_not, Bool.not_eq_true', Bool.not_eq_false', Bool.not_eq_eq_eq_not, Bool.not_true, Bool.not_false, Bool.and_eq_true, Bool.or_eq_true, Bool.or_eq_false_iff, beq_iff_eq, beq_eq_false_iff_ne, ne_eq, Int.not_lt, Int.not_le, Decidable.not_not] at hg164
                                refine m_one_yes (j := 19) (t := 164) 20 (by kernel_rfl) rfl rfl rfl rfl rfl ?_
                                refine sm_callp rfl rfl rfl (awake25_ok _) ?_
                                rintro _ rfl
                                refine m_take 21 false rfl rfl (by kernel_rfl) (by kernel_rfl) (by kernel_rfl) (fun _ _ _ _ h => h) (v_pick_t rfl rfl) rfl rfl ?_
                                refine m_take 22 false rfl rfl (by kernel_rfl) (by kernel_rfl) (by kernel_rfl) (fun _ _ _ _ h => h) (v_assign rfl) rfl rfl ?_
                                refine m_done (by kernel_rfl) ?_
                                refine g_next hK41 ?_
                                first | refine g_keep [10] [] [] (keep_cons rfl keep_nil) lkeep_nil keep_nil rfl ?_ | refine g_keep [10] [] [] rfl rfl rfl rfl ?_
                                refine g_ret ?_
                                refine g_end1 (.inl rfl) Try.results7 (.tmp rfl) [] (ASub.refl _) (by first | exact AHeap.sub_refl _ | exact hsub) (fun p hp => by cases hp) ⟨rfl, ?_⟩
                                rfl
                              · exfalso; (try simp only [decide_eq_true_eq, decide_eq_false_iff_not, Bool.not_eq_true', Bool.not_eq_false', Bool.not_eq_eq_eq_not, Bool.not_true, Bool.not_false, Bool.and_eq_true, Bool.or_eq_true, Bool.or_eq_false_iff, beq_iff_eq, beq_eq_false_iff_ne, ne_eq, Int.not_lt, Int.not_le, Decidable.not_not] at hg164); simp at hg164
                          · exfalso; (try simp only [decide_eq_true_eq, decide_eq_false_iff_not, Bool.not_eq_true', Bool.not_eq_false', Bool.not_eq_eq_eq_not, Bool.not_true, Bool.not_false, Bool.and_eq_true, Bool.or_eq_true, Bool.or_eq_false_iff, beq_iff_eq, beq_eq_false_iff_ne, ne_eq, Int.not_lt, Int.not_le, Decidable.not_not] at hg150); simp at hg150

end Go.Proofs.Ytgipbhfblmblcaa

import Derived.Test.YtnkcofpkmnohkaaCarryLaws
set_option maxHeartbeats 8000000
set_option linter.unusedSimpArgs false
set_option linter.unusedVariables false
set_option maxRecDepth 100000
namespace Go.Proofs.Ytnkcofpkmnohkaa
open Go Go.Proofs.Ytnkcofpkmnohkaa.AM
theorem carryOrders_ok (r : Rc) (a b : List Int) (hhr : Held r.bag) (hla : a.length ≤ 140737488351232) (hlb : b.length ≤ 140737488351232) (G : AHeap) : PCalls Try.prog 6 [encR r, .imm (a.map (.int .i64)), .imm (b.map (.int .i64))] G (fun v => v = .bool true) := by
  refine LCalls.intro 57 fi6 rfl Try.ntmps6 rfl (fun _ h => h.elim) (fun H hH w0 hw0 => ?_)
  refine g_seq (fun K0 hK0 => ?_)
  refine g_region ?_
  refine g_step rfl (s_box rfl rfl rfl rfl ?_)
  refine g_step rfl (s_val (v_assign rfl) rfl rfl ?_)
  refine g_nil ?_
  refine g_next hK0 ?_
  refine g_seq (fun K1 hK1 => ?_)
  refine g_seq (fun K2 hK2 => ?_)
  refine g_region ?_
  refine g_step rfl (s_val (by first | exact v_loadl_all ty28 rfl rfl rfl rfl rfl | exact v_loadl_part (cs := [_, _, _, _, _, _, _]) ty28 rfl rfl rfl rfl rfl rfl) rfl rfl ?_)
  refine g_step rfl (s_lit ty23 ty28 rfl rfl rfl rfl rfl rfl rfl ?_)
  refine g_step rfl (s_callp rfl rfl rfl (fewL_ok [r] _ _ rfl (by simp [hhr]) (by simp)) ?_)
  rintro _ rfl
  refine g_step rfl (s_val (v_not rfl) rfl rfl ?_)
  refine g_step rfl (s_val (v_move rfl) rfl rfl ?_)
  refine g_split 15 rfl (fun hg15 => ?_) (fun hg15 => ?_)
  · try simp only [decide_eq_true_eq, decide_eq_false_iff_not, Bool.not_eq_true', Bool.not_eq_false', Bool.not_eq_eq_eq_not, Bool.not_true, Bool.not_false, Bool.and_eq_true, Bool.or_eq_true, Bool.or_eq_false_iff, beq_iff_eq, beq_eq_false_iff_ne, ne_eq, Int.not_lt, Int.not_le, Decidable.not_not] at hg15
    refine g_step_no (j := 4) (t := 15) rfl rfl rfl rfl rfl rfl rfl ?_
    refine g_step_no (j := 4) (t := 15) rfl rfl rfl rfl rfl rfl rfl ?_
    refine g_step_no (j := 4) (t := 15) rfl rfl rfl rfl rfl rfl rfl ?_
    refine g_step rfl (s_val (v_pick_t rfl rfl) rfl rfl ?_)
    refine g_step rfl (s_val (v_move rfl) rfl rfl ?_)
    refine g_step_no (j := 9) (t := 20) rfl rfl rfl rfl rfl rfl rfl ?_
    refine g_step_no (j := 9) (t := 20) rfl rfl rfl rfl rfl rfl rfl ?_
    refine g_step_no (j := 9) (t := 20) rfl rfl rfl rfl rfl rfl rfl ?_
    refine g_step rfl (s_val (v_pick_t rfl rfl) rfl rfl ?_)
    refine g_nil ?_
    refine g_next hK2 ?_
    refine g_cond rfl (fun _ => ?_) (fun h => by cases h)
    refine g_seq (fun K3 hK3 => ?_)
    refine g_region ?_
    refine g_step rfl (s_callp rfl rfl rfl (awake18_ok _) ?_)
    rintro _ rfl
    refine g_step rfl (s_val (v_assign rfl) rfl rfl ?_)
    refine g_nil ?_
    refine g_next hK3 ?_
    refine g_ret ?_
    refine g_then_ret ?_
    refine g_end1 (.inl rfl) Try.results6 (.tmp rfl) [] (ASub.refl _) (by first | exact AHeap.sub_refl _ | exact hHG) (fun p hp => by cases hp) ⟨rfl, ?_⟩
    rfl
  · try simp only [decide_eq_true_eq, decide_eq_false_iff_not, Bool.not_eq_true', Bool.not_eq_false', Bool.not_eq_eq_eq_not, Bool.not_true, Bool.not_false, Bool.and_eq_true, Bool.or_eq_true, Bool.or_eq_false_iff, beq_iff_eq, beq_eq_false_iff_ne, ne_eq, Int.not_lt, Int.not_le, Decidable.not_not] at hg15
    refine g_step_yes (j := 4) (t := 15) rfl rfl rfl rfl (s_val (v_move rfl) rfl rfl ?_)
    refine g_step_yes (j := 4) (t := 15) rfl rfl rfl rfl (s_val (v_len ty41 rfl (by first | rfl | assumption) (by first | exact List.length_map .. | rfl)) rfl rfl ?_)
    refine g_step_yes (j := 4) (t := 15) rfl rfl rfl rfl (s_val (v_gtr rfl rfl) rfl rfl ?_)
    refine g_step rfl (s_val (v_pick_f rfl rfl) rfl rfl ?_)
    refine g_step rfl (s_val (v_move rfl) rfl rfl ?_)
    refine g_split 20 rfl (fun hg20 => ?_) (fun hg20 => ?_)
    · try simp only [decide_eq_true_eq, decide_eq_false_iff_not, Bool.not_eq_true', Bool.not_eq_false', Bool.not_eq_eq_eq_not, Bool.not_true, Bool.not_false, Bool.and_eq_true, Bool.or_eq_true, Bool.or_eq_false_iff, beq_iff_eq, beq_eq_false_iff_ne, ne_eq, Int.not_lt, Int.not_le, Decidable.not_not] at hg20
      refine g_step_no (j := 9) (t := 20) rfl rfl rfl rfl rfl rfl rfl ?_
      refine g_step_no (j := 9) (t := 20) rfl rfl rfl rfl rfl rfl rfl ?_
      refine g_step_no (j := 9) (t := 20) rfl rfl rfl rfl rfl rfl rfl ?_
      refine g_step rfl (s_val (v_pick_t rfl rfl) rfl rfl ?_)
      refine g_nil ?_
      refine g_next hK2 ?_
      refine g_cond rfl (fun _ => ?_) (fun h => by cases h)
      refine g_seq (fun K4 hK4 => ?_)
      refine g_region ?_
      refine g_step rfl (s_callp rfl rfl rfl (awake18_ok _) ?_)
      rintro _ rfl
      refine g_step rfl (s_val (v_assign rfl) rfl rfl ?_)
      refine g_nil ?_
      refine g_next hK4 ?_
      refine g_ret ?_
      refine g_then_ret ?_
      refine g_end1 (.inl rfl) Try.results6 (.tmp rfl) [] (ASub.refl _) (by first | exact AHeap.sub_refl _ | exact hHG) (fun p hp => by cases hp) ⟨rfl, ?_⟩
      rfl
    · try simp only [decide_eq_true_eq, decide_eq_false_iff_not, Bool.not_eq_true', Bool.not_eq_false', Bool.not_eq_eq_eq_not, Bool.not_true, Bool.not_false, Bool.and_eq_true, Bool.or_eq_true, Bool.or_eq_false_iff, beq_iff_eq, beq_eq_false_iff_ne, ne_eq, Int.not_lt, Int.not_le, Decidable.not_not] at hg20
      refine g_step_yes (j := 9) (t := 20) rfl rfl rfl rfl (s_val (v_move rfl) rfl rfl ?_)
      refine g_step_yes (j := 9) (t := 20) rfl rfl rfl rfl (s_val (v_len ty41 rfl (by first | rfl | assumption) (by first | exact List.length_map .. | rfl)) rfl rfl ?_)
      refine g_step_yes (j := 9) (t := 20) rfl rfl rfl rfl (s_val (v_gtr rfl rfl) rfl rfl ?_)
      refine g_step rfl (s_val (v_pick_f rfl rfl) rfl rfl ?_)
      refine g_nil ?_
      refine g_next hK2 ?_
      refine g_cond rfl (fun hc24 => ?_) (fun hc24 => ?_)
      · try simp only [decide_eq_true_eq, decide_eq_false_iff_not, Bool.not_eq_true', Bool.not_eq_false', Bool.not_eq_eq_eq_not, Bool.not_true, Bool.not_false, Bool.and_eq_true, Bool.or_eq_true, Bool.or_eq_false_iff, beq_iff_eq, beq_eq_false_iff_ne, ne_eq, Int.not_lt, Int.not_le, Decidable.not_not] at hc24
        refine g_seq (fun K5 hK5 => ?_)
        refine g_region ?_
        refine g_step rfl (s_callp rfl rfl rfl (awake18_ok _) ?_)
        rintro _ rfl
        refine g_step rfl (s_val (v_assign rfl) rfl rfl ?_)
        refine g_nil ?_
        refine g_next hK5 ?_
        refine g_ret ?_
        refine g_then_ret ?_
        refine g_end1 (.inl rfl) Try.results6 (.tmp rfl) [] (ASub.refl _) (by first | exact AHeap.sub_refl _ | exact hHG) (fun p hp => by cases hp) ⟨rfl, ?_⟩
        rfl
      · try simp only [decide_eq_true_eq, decide_eq_false_iff_not, Bool.not_eq_true', Bool.not_eq_false', Bool.not_eq_eq_eq_not, Bool.not_true, Bool.not_false, Bool.and_eq_true, Bool.or_eq_true, Bool.or_eq_false_iff, beq_iff_eq, beq_eq_false_iff_ne, ne_eq, Int.not_lt, Int.not_le, Decidable.not_not] at hc24
        have hf : few r.bag = true := by simp_all [fewL]
        have hsr := (few_small hf).1
        refine g_skip ?_
        refine g_next hK1 ?_
        refine g_cut (fun env L B G => env = [(1, .imm (a.map (.int .i64))), (2, .imm (b.map (.int .i64))), (8, .bool (cpath r (a ++ b)).2)] ∧ L = [(3, 3, 0), (7, 7, 0)] ∧ B = [(3, (encR r)), (7, (encR (cpath r (a ++ b)).1))] ∧ H.sub G ∧ Small r.bag ∧ a.length ≤ 10 ∧ b.length ≤ 10) ?_ (fun env L B G hI => ?_)
        · skip
          refine g_draw (n := 13) (fun j => !([3, 5, 11] : List Nat).contains j) rfl rfl ?_
          refine m_take 2 false rfl rfl (by kernel_rfl) (by kernel_rfl) (by kernel_rfl) (fun _ _ _ _ h => h) (v_move rfl) rfl rfl ?_
          refine m_take 4 false rfl rfl (by kernel_rfl) (by kernel_rfl) (by kernel_rfl) (fun _ _ _ _ h => h) (v_move rfl) rfl rfl ?_
          refine m_all (is := [0, 1, 10]) (by kernel_rfl) rfl (fun _ _ _ => trivial) (fun i hi => ?_)
          rcases (by simpa using hi : i = 0 ∨ i = 1 ∨ i = 10) with rfl | rfl | rfl
          · refine ⟨_, rfl, .inl ⟨rfl, ?_⟩⟩
            refine sm_val (by first | exact v_loadl_all ty28 rfl rfl rfl rfl rfl | exact v_loadl_part (cs := [_, _, _, _, _, _, _]) ty28 rfl rfl rfl rfl rfl rfl) rfl rfl ?_
            refine m_all (is := [1, 10]) (by kernel_rfl) rfl (fun _ _ _ => trivial) (fun i hi => ?_)
            rcases (by simpa using hi : i = 1 ∨ i = 10) with rfl | rfl
            · refine ⟨_, rfl, .inl ⟨rfl, ?_⟩⟩
              refine sm_lit0 ty41 ty3 rfl ?_
              refine m_all (is := [3, 10]) (by kernel_rfl) rfl (fun _ _ _ => trivial) (fun i hi => ?_)
              rcases (by simpa using hi : i = 3 ∨ i = 10) with rfl | rfl
              · refine ⟨_, rfl, .inl ⟨rfl, ?_⟩⟩
                refine sm_any rfl (s_append (l := []) (m := (a.map (.int .i64))) ty41 ty3 rfl rfl (Own.nil ..) rfl rfl (by refine Even.map _ ?_ _; intro _; rfl) (by intro x hx; obtain ⟨_, _, rfl⟩ := List.mem_map.1 hx; rfl) rfl (by simp; omega) (by simp; omega) ?_)
                intro av30 G30 hown30
                rw [List.nil_append] at hown30
                refine m_all (is := [5, 10]) (by kernel_rfl) rfl (fun _ _ _ => trivial) (fun i hi => ?_)
                rcases (by simpa using hi : i = 5 ∨ i = 10) with rfl | rfl
                · refine ⟨_, rfl, .inl ⟨rfl, ?_⟩⟩
                  refine sm_any rfl (s_append (l := (a.map (.int .i64))) (m := (b.map (.int .i64))) ty41 ty3 rfl rfl hown30 rfl rfl (by refine Even.map _ ?_ _; intro _; rfl) (by intro x hx; obtain ⟨_, _, rfl⟩ := List.mem_map.1 hx; rfl) rfl (by simp; omega) (by simp; omega) ?_)
                  intro av32 G32 hown32
                  rw [← List.map_append] at hown32
                  refine m_all (is := [6, 10]) (by kernel_rfl) rfl (fun _ _ _ => trivial) (fun i hi => ?_)
                  rcases (by simpa using hi : i = 6 ∨ i = 10) with rfl | rfl
                  · refine ⟨_, rfl, .inl ⟨rfl, ?_⟩⟩
                    refine sm_callp rfl rfl rfl (path_ok r (a ++ b) _ hsr (by simp; omega) _ hown32.view) ?_
                    rintro _ rfl
                    refine m_take 7 false rfl rfl (by kernel_rfl) (by kernel_rfl) (by kernel_rfl) (fun _ _ _ _ h => h) (v_move rfl) rfl rfl ?_
                    refine m_take 8 false rfl rfl (by kernel_rfl) (by kernel_rfl) (by kernel_rfl) (fun _ _ _ _ h => h) (v_extract rfl rfl) rfl rfl ?_
                    refine m_take 9 false rfl rfl (by kernel_rfl) (by kernel_rfl) (by kernel_rfl) (fun _ _ _ _ h => h) (v_extract rfl rfl) rfl rfl ?_
                    refine m_one 10 (by kernel_rfl) rfl rfl ?_
                    refine sm_alloc (av := (.agg [(.int .i64 0), (.int .i64 0), (.int .i64 0), (.int .i64 0), (.int .i64 0), (.bool false), .nil0])) ty28 rfl rfl rfl rfl ?_
                    refine m_one 11 (by kernel_rfl) rfl rfl ?_
                    refine sm_any rfl (s_store_all ty28 rfl rfl rfl rfl rfl rfl ?_)
                    refine m_take 12 false rfl rfl (by kernel_rfl) (by kernel_rfl) (by kernel_rfl) (fun _ _ _ _ h => h) (v_assign rfl) rfl rfl ?_
                    refine m_done (by kernel_rfl) ?_
                    first | refine g_keep [1, 2, 8] [3, 7] [3, 7] (keep_cons rfl (keep_cons rfl (keep_cons rfl keep_nil))) (lkeep_cons rfl (lkeep_cons rfl lkeep_nil)) (keep_cons rfl (keep_cons rfl keep_nil)) rfl ?_ | refine g_keep [1, 2, 8] [3, 7] [3, 7] rfl rfl rfl rfl ?_
                    exact g_has ⟨rfl, rfl, rfl, ⟨hown32.sub, hsr, by omega, by omega⟩⟩
                  · refine ⟨_, rfl, .inl ⟨rfl, ?_⟩⟩
                    refine sm_alloc (av := (.agg [(.int .i64 0), (.int .i64 0), (.int .i64 0), (.int .i64 0), (.int .i64 0), (.bool false), .nil0])) ty28 rfl rfl rfl rfl ?_
                    refine m_one 6 (by kernel_rfl) rfl rfl ?_
                    refine sm_callp rfl rfl rfl (path_ok r (a ++ b) _ hsr (by simp; omega) _ hown32.view) ?_
                    rintro _ rfl
                    refine m_take 7 false rfl rfl (by kernel_rfl) (by kernel_rfl) (by kernel_rfl) (fun _ _ _ _ h => h) (v_move rfl) rfl rfl ?_
                    refine m_take 8 false rfl rfl (by kernel_rfl) (by kernel_rfl) (by kernel_rfl) (fun _ _ _ _ h => h) (v_extract rfl rfl) rfl rfl ?_
                    refine m_take 9 false rfl rfl (by kernel_rfl) (by kernel_rfl) (by kernel_rfl) (fun _ _ _ _ h => h) (v_extract rfl rfl) rfl rfl ?_
                    refine m_one 11 (by kernel_rfl) rfl rfl ?_
                    refine sm_any rfl (s_store_all ty28 rfl rfl rfl rfl rfl rfl ?_)
                    refine m_take 12 false rfl rfl (by kernel_rfl) (by kernel_rfl) (by kernel_rfl) (fun _ _ _ _ h => h) (v_assign rfl) rfl rfl ?_
                    refine m_done (by kernel_rfl) ?_
                    first | refine g_keep [1, 2, 8] [3, 7] [3, 7] (keep_cons rfl (keep_cons rfl (keep_cons rfl keep_nil))) (lkeep_cons rfl (lkeep_cons rfl lkeep_nil)) (keep_cons rfl (keep_cons rfl keep_nil)) rfl ?_ | refine g_keep [1, 2, 8] [3, 7] [3, 7] rfl rfl rfl rfl ?_
                    exact g_has ⟨rfl, rfl, rfl, ⟨hown32.sub, hsr, by omega, by omega⟩⟩
                · refine ⟨_, rfl, .inl ⟨rfl, ?_⟩⟩
                  refine sm_alloc (av := (.agg [(.int .i64 0), (.int .i64 0), (.int .i64 0), (.int .i64 0), (.int .i64 0), (.bool false), .nil0])) ty28 rfl rfl rfl rfl ?_
                  refine m_one 5 (by kernel_rfl) rfl rfl ?_
                  refine sm_any rfl (s_append (l := (a.map (.int .i64))) (m := (b.map (.int .i64))) ty41 ty3 rfl rfl hown30 rfl rfl (by refine Even.map _ ?_ _; intro _; rfl) (by intro x hx; obtain ⟨_, _, rfl⟩ := List.mem_map.1 hx; rfl) rfl (by simp; omega) (by simp; omega) ?_)
                  intro av32 G32 hown32
                  rw [← List.map_append] at hown32
                  refine m_one 6 (by kernel_rfl) rfl rfl ?_
                  refine sm_callp rfl rfl rfl (path_ok r (a ++ b) _ hsr (by simp; omega) _ hown32.view) ?_
                  rintro _ rfl
                  refine m_take 7 false rfl rfl (by kernel_rfl) (by kernel_rfl) (by kernel_rfl) (fun _ _ _ _ h => h) (v_move rfl) rfl rfl ?_
                  refine m_take 8 false rfl rfl (by kernel_rfl) (by kernel_rfl) (by kernel_rfl) (fun _ _ _ _ h => h) (v_extract rfl rfl) rfl rfl ?_
                  refine m_take 9 false rfl rfl (by kernel_rfl) (by kernel_rfl) (by kernel_rfl) (fun _ _ _ _ h => h) (v_extract rfl rfl) rfl rfl ?_
                  refine m_one 11 (by kernel_rfl) rfl rfl ?_
                  refine sm_any rfl (s_store_all ty28 rfl rfl rfl rfl rfl rfl ?_)
                  refine m_take 12 false rfl rfl (by kernel_rfl) (by kernel_rfl) (by kernel_rfl) (fun _ _ _ _ h => h) (v_assign rfl) rfl rfl ?_
                  refine m_done (by kernel_rfl) ?_
                  first | refine g_keep [1, 2, 8] [3, 7] [3, 7] (keep_cons rfl (keep_cons rfl (keep_cons rfl keep_nil))) (lkeep_cons rfl (lkeep_cons rfl lkeep_nil)) (keep_cons rfl (keep_cons rfl keep_nil)) rfl ?_ | refine g_keep [1, 2, 8] [3, 7] [3, 7] rfl rfl rfl rfl ?_
                  exact g_has ⟨rfl, rfl, rfl, ⟨hown32.sub, hsr, by omega, by omega⟩⟩
              · refine ⟨_, rfl, .inl ⟨rfl, ?_⟩⟩
                refine sm_alloc (av := (.agg [(.int .i64 0), (.int .i64 0), (.int .i64 0), (.int .i64 0), (.int .i64 0), (.bool false), .nil0])) ty28 rfl rfl rfl rfl ?_
                refine m_one 3 (by kernel_rfl) rfl rfl ?_
                refine sm_any rfl (s_append (l := []) (m := (a.map (.int .i64))) ty41 ty3 rfl rfl (Own.nil ..) rfl rfl (by refine Even.map _ ?_ _; intro _; rfl) (by intro x hx; obtain ⟨_, _, rfl⟩ := List.mem_map.1 hx; rfl) rfl (by simp; omega) (by simp; omega) ?_)
                intro av30 G30 hown30
                rw [List.nil_append] at hown30
                refine m_one 5 (by kernel_rfl) rfl rfl ?_
                refine sm_any rfl (s_append (l := (a.map (.int .i64))) (m := (b.map (.int .i64))) ty41 ty3 rfl rfl hown30 rfl rfl (by refine Even.map _ ?_ _; intro _; rfl) (by intro x hx; obtain ⟨_, _, rfl⟩ := List.mem_map.1 hx; rfl) rfl (by simp; omega) (by simp; omega) ?_)
                intro av32 G32 hown32
                rw [← List.map_append] at hown32
                refine m_one 6 (by kernel_rfl) rfl rfl ?_
                refine sm_callp rfl rfl rfl (path_ok r (a ++ b) _ hsr (by simp; omega) _ hown32.view) ?_
                rintro _ rfl
                refine m_take 7 false rfl rfl (by kernel_rfl) (by kernel_rfl) (by kernel_rfl) (fun _ _ _ _ h => h) (v_move rfl) rfl rfl ?_
                refine m_take 8 false rfl rfl (by kernel_rfl) (by kernel_rfl) (by kernel_rfl) (fun _ _ _ _ h => h) (v_extract rfl rfl) rfl rfl ?_
                refine m_take 9 false rfl rfl (by kernel_rfl) (by kernel_rfl) (by kernel_rfl) (fun _ _ _ _ h => h) (v_extract rfl rfl) rfl rfl ?_
                refine m_one 11 (by kernel_rfl) rfl rfl ?_
                refine sm_any rfl (s_store_all ty28 rfl rfl rfl rfl rfl rfl ?_)
                refine m_take 12 false rfl rfl (by kernel_rfl) (by kernel_rfl) (by kernel_rfl) (fun _ _ _ _ h => h) (v_assign rfl) rfl rfl ?_
                refine m_done (by kernel_rfl) ?_
                first | refine g_keep [1, 2, 8] [3, 7] [3, 7] (keep_cons rfl (keep_cons rfl (keep_cons rfl keep_nil))) (lkeep_cons rfl (lkeep_cons rfl lkeep_nil)) (keep_cons rfl (keep_cons rfl keep_nil)) rfl ?_ | refine g_keep [1, 2, 8] [3, 7] [3, 7] rfl rfl rfl rfl ?_
                exact g_has ⟨rfl, rfl, rfl, ⟨hown32.sub, hsr, by omega, by omega⟩⟩
            · refine ⟨_, rfl, .inl ⟨rfl, ?_⟩⟩
              refine sm_alloc (av := (.agg [(.int .i64 0), (.int .i64 0), (.int .i64 0), (.int .i64 0), (.int .i64 0), (.bool false), .nil0])) ty28 rfl rfl rfl rfl ?_
              refine m_one 1 (by kernel_rfl) rfl rfl ?_
              refine sm_lit0 ty41 ty3 rfl ?_
              refine m_one 3 (by kernel_rfl) rfl rfl ?_
              refine sm_any rfl (s_append (l := []) (m := (a.map (.int .i64))) ty41 ty3 rfl rfl (Own.nil ..) rfl rfl (by refine Even.map _ ?_ _; intro _; rfl) (by intro x hx; obtain ⟨_, _, rfl⟩ := List.mem_map.1 hx; rfl) rfl (by simp; omega) (by simp; omega) ?_)
              intro av30 G30 hown30
              rw [List.nil_append] at hown30
              refine m_one 5 (by kernel_rfl) rfl rfl ?_
              refine sm_any rfl (s_append (l := (a.map (.int .i64))) (m := (b.map (.int .i64))) ty41 ty3 rfl rfl hown30 rfl rfl (by refine Even.map _ ?_ _; intro _; rfl) (by intro x hx; obtain ⟨_, _, rfl⟩ := List.mem_map.1 hx; rfl) rfl (by simp; omega) (by simp; omega) ?_)
              intro av32 G32 hown32
              rw [← List.map_append] at hown32
              refine m_one 6 (by kernel_rfl) rfl rfl ?_
              refine sm_callp rfl rfl rfl (path_ok r (a ++ b) _ hsr (by simp; omega) _ hown32.view) ?_
              rintro _ rfl
              refine m_take 7 false rfl rfl (by kernel_rfl) (by kernel_rfl) (by kernel_rfl) (fun _ _ _ _ h => h) (v_move rfl) rfl rfl ?_
              refine m_take 8 false rfl rfl (by kernel_rfl) (by kernel_rfl) (by kernel_rfl) (fun _ _ _ _ h => h) (v_extract rfl rfl) rfl rfl ?_
              refine m_take 9 false rfl rfl (by kernel_rfl) (by kernel_rfl) (by kernel_rfl) (fun _ _ _ _ h => h) (v_extract rfl rfl) rfl rfl ?_
              refine m_one 11 (by kernel_rfl) rfl rfl ?_
              refine sm_any rfl (s_store_all ty28 rfl rfl rfl rfl rfl rfl ?_)
              refine m_take 12 false rfl rfl (by kernel_rfl) (by kernel_rfl) (by kernel_rfl) (fun _ _ _ _ h => h) (v_assign rfl) rfl rfl ?_
              refine m_done (by kernel_rfl) ?_
              first | refine g_keep [1, 2, 8] [3, 7] [3, 7] (keep_cons rfl (keep_cons rfl (keep_cons rfl keep_nil))) (lkeep_cons rfl (lkeep_cons rfl lkeep_nil)) (keep_cons rfl (keep_cons rfl keep_nil)) rfl ?_ | refine g_keep [1, 2, 8] [3, 7] [3, 7] rfl rfl rfl rfl ?_
              exact g_has ⟨rfl, rfl, rfl, ⟨hown32.sub, hsr, by omega, by omega⟩⟩
          · refine ⟨_, rfl, .inl ⟨rfl, ?_⟩⟩
            refine sm_lit0 ty41 ty3 rfl ?_
            refine m_all (is := [0, 3, 10]) (by kernel_rfl) rfl (fun _ _ _ => trivial) (fun i hi => ?_)
            rcases (by simpa using hi : i = 0 ∨ i = 3 ∨ i = 10) with rfl | rfl | rfl
            · refine ⟨_, rfl, .inl ⟨rfl, ?_⟩⟩
              refine sm_val (by first | exact v_loadl_all ty28 rfl rfl rfl rfl rfl | exact v_loadl_part (cs := [_, _, _, _, _, _, _]) ty28 rfl rfl rfl rfl rfl rfl) rfl rfl ?_
              refine m_all (is := [3, 10]) (by kernel_rfl) rfl (fun _ _ _ => trivial) (fun i hi => ?_)
              rcases (by simpa using hi : i = 3 ∨ i = 10) with rfl | rfl
              · refine ⟨_, rfl, .inl ⟨rfl, ?_⟩⟩
                refine sm_any rfl (s_append (l := []) (m := (a.map (.int .i64))) ty41 ty3 rfl rfl (Own.nil ..) rfl rfl (by refine Even.map _ ?_ _; intro _; rfl) (by intro x hx; obtain ⟨_, _, rfl⟩ := List.mem_map.1 hx; rfl) rfl (by simp; omega) (by simp; omega) ?_)
                intro av30 G30 hown30
                rw [List.nil_append] at hown30
                refine m_all (is := [5, 10]) (by kernel_rfl) rfl (fun _ _ _ => trivial) (fun i hi => ?_)
                rcases (by simpa using hi : i = 5 ∨ i = 10) with rfl | rfl
                · refine ⟨_, rfl, .inl ⟨rfl, ?_⟩⟩
                  refine sm_any rfl (s_append (l := (a.map (.int .i64))) (m := (b.map (.int .i64))) ty41 ty3 rfl rfl hown30 rfl rfl (by refine Even.map _ ?_ _; intro _; rfl) (by intro x hx; obtain ⟨_, _, rfl⟩ := List.mem_map.1 hx; rfl) rfl (by simp; omega) (by simp; omega) ?_)
                  intro av32 G32 hown32
                  rw [← List.map_append] at hown32
                  refine m_all (is := [6, 10]) (by kernel_rfl) rfl (fun _ _ _ => trivial) (fun i hi => ?_)
                  rcases (by simpa using hi : i = 6 ∨ i = 10) with rfl | rfl
                  · refine ⟨_, rfl, .inl ⟨rfl, ?_⟩⟩
                    refine sm_callp rfl rfl rfl (path_ok r (a ++ b) _ hsr (by simp; omega) _ hown32.view) ?_
                    rintro _ rfl
                    refine m_take 7 false rfl rfl (by kernel_rfl) (by kernel_rfl) (by kernel_rfl) (fun _ _ _ _ h => h) (v_move rfl) rfl rfl ?_
                    refine m_take 8 false rfl rfl (by kernel_rfl) (by kernel_rfl) (by kernel_rfl) (fun _ _ _ _ h => h) (v_extract rfl rfl) rfl rfl ?_
                    refine m_take 9 false rfl rfl (by kernel_rfl) (by kernel_rfl) (by kernel_rfl) (fun _ _ _ _ h => h) (v_extract rfl rfl) rfl rfl ?_
                    refine m_one 10 (by kernel_rfl) rfl rfl ?_
                    refine sm_alloc (av := (.agg [(.int .i64 0), (.int .i64 0), (.int .i64 0), (.int .i64 0), (.int .i64 0), (.bool false), .nil0])) ty28 rfl rfl rfl rfl ?_
                    refine m_one 11 (by kernel_rfl) rfl rfl ?_
                    refine sm_any rfl (s_store_all ty28 rfl rfl rfl rfl rfl rfl ?_)
                    refine m_take 12 false rfl rfl (by kernel_rfl) (by kernel_rfl) (by kernel_rfl) (fun _ _ _ _ h => h) (v_assign rfl) rfl rfl ?_
                    refine m_done (by kernel_rfl) ?_
                    first | refine g_keep [1, 2, 8] [3, 7] [3, 7] (keep_cons rfl (keep_cons rfl (keep_cons rfl keep_nil))) (lkeep_cons rfl (lkeep_cons rfl lkeep_nil)) (keep_cons rfl (keep_cons rfl keep_nil)) rfl ?_ | refine g_keep [1, 2, 8] [3, 7] [3, 7] rfl rfl rfl rfl ?_
                    exact g_has ⟨rfl, rfl, rfl, ⟨hown32.sub, hsr, by omega, by omega⟩⟩
                  · refine ⟨_, rfl, .inl ⟨rfl, ?_⟩⟩
                    refine sm_alloc (av := (.agg [(.int .i64 0), (.int .i64 0), (.int .i64 0), (.int .i64 0), (.int .i64 0), (.bool false), .nil0])) ty28 rfl rfl rfl rfl ?_
                    refine m_one 6 (by kernel_rfl) rfl rfl ?_
                    refine sm_callp rfl rfl rfl (path_ok r (a ++ b) _ hsr (by simp; omega) _ hown32.view) ?_
                    rintro _ rfl
                    refine m_take 7 false rfl rfl (by kernel_rfl) (by kernel_rfl) (by kernel_rfl) (fun _ _ _ _ h => h) (v_move rfl) rfl rfl ?_
                    refine m_take 8 false rfl rfl (by kernel_rfl) (by kernel_rfl) (by kernel_rfl) (fun _ _ _ _ h => h) (v_extract rfl rfl) rfl rfl ?_
                    refine m_take 9 false rfl rfl (by kernel_rfl) (by kernel_rfl) (by kernel_rfl) (fun _ _ _ _ h => h) (v_extract rfl rfl) rfl rfl ?_
                    refine m_one 11 (by kernel_rfl) rfl rfl ?_
                    refine sm_any rfl (s_store_all ty28 rfl rfl rfl rfl rfl rfl ?_)
                    refine m_take 12 false rfl rfl (by kernel_rfl) (by kernel_rfl) (by kernel_rfl) (fun _ _ _ _ h => h) (v_assign rfl) rfl rfl ?_
                    refine m_done (by kernel_rfl) ?_
                    first | refine g_keep [1, 2, 8] [3, 7] [3, 7] (keep_cons rfl (keep_cons rfl (keep_cons rfl keep_nil))) (lkeep_cons rfl (lkeep_cons rfl lkeep_nil)) (keep_cons rfl (keep_cons rfl keep_nil)) rfl ?_ | refine g_keep [1, 2, 8] [3, 7] [3, 7] rfl rfl rfl rfl ?_
                    exact g_has ⟨rfl, rfl, rfl, ⟨hown32.sub, hsr, by omega, by omega⟩⟩
                · refine ⟨_, rfl, .inl ⟨rfl, ?_⟩⟩
                  refine sm_alloc (av := (.agg [(.int .i64 0), (.int .i64 0), (.int .i64 0), (.int .i64 0), (.int .i64 0), (.bool false), .nil0])) ty28 rfl rfl rfl rfl ?_
                  refine m_one 5 (by kernel_rfl) rfl rfl ?_
                  refine sm_any rfl (s_append (l := (a.map (.int .i64))) (m := (b.map (.int .i64))) ty41 ty3 rfl rfl hown30 rfl rfl (by refine Even.map _ ?_ _; intro _; rfl) (by intro x hx; obtain ⟨_, _, rfl⟩ := List.mem_map.1 hx; rfl) rfl (by simp; omega) (by simp; omega) ?_)
                  intro av32 G32 hown32
                  rw [← List.map_append] at hown32
                  refine m_one 6 (by kernel_rfl) rfl rfl ?_
                  refine sm_callp rfl rfl rfl (path_ok r (a ++ b) _ hsr (by simp; omega) _ hown32.view) ?_
                  rintro _ rfl
                  refine m_take 7 false rfl rfl (by kernel_rfl) (by kernel_rfl) (by kernel_rfl) (fun _ _ _ _ h => h) (v_move rfl) rfl rfl ?_
                  refine m_take 8 false rfl rfl (by kernel_rfl) (by kernel_rfl) (by kernel_rfl) (fun _ _ _ _ h => h) (v_extract rfl rfl) rfl rfl ?_
                  refine m_take 9 false rfl rfl (by kernel_rfl) (by kernel_rfl) (by kernel_rfl) (fun _ _ _ _ h => h) (v_extract rfl rfl) rfl rfl ?_
                  refine m_one 11 (by kernel_rfl) rfl rfl ?_
                  refine sm_any rfl (s_store_all ty28 rfl rfl rfl rfl rfl rfl ?_)
                  refine m_take 12 false rfl rfl (by kernel_rfl) (by kernel_rfl) (by kernel_rfl) (fun _ _ _ _ h => h) (v_assign rfl) rfl rfl ?_
                  refine m_done (by kernel_rfl) ?_
                  first | refine g_keep [1, 2, 8] [3, 7] [3, 7] (keep_cons rfl (keep_cons rfl (keep_cons rfl keep_nil))) (lkeep_cons rfl (lkeep_cons rfl lkeep_nil)) (keep_cons rfl (keep_cons rfl keep_nil)) rfl ?_ | refine g_keep [1, 2, 8] [3, 7] [3, 7] rfl rfl rfl rfl ?_
                  exact g_has ⟨rfl, rfl, rfl, ⟨hown32.sub, hsr, by omega, by omega⟩⟩
              · refine ⟨_, rfl, .inl ⟨rfl, ?_⟩⟩
                refine sm_alloc (av := (.agg [(.int .i64 0), (.int .i64 0), (.int .i64 0), (.int .i64 0), (.int .i64 0), (.bool false), .nil0])) ty28 rfl rfl rfl rfl ?_
                refine m_one 3 (by kernel_rfl) rfl rfl ?_
                refine sm_any rfl (s_append (l := []) (m := (a.map (.int .i64))) ty41 ty3 rfl rfl (Own.nil ..) rfl rfl (by refine Even.map _ ?_ _; intro _; rfl) (by intro x hx; obtain ⟨_, _, rfl⟩ := List.mem_map.1 hx; rfl) rfl (by simp; omega) (by simp; omega) ?_)
                intro av30 G30 hown30
                rw [List.nil_append] at hown30
                refine m_one 5 (by kernel_rfl) rfl rfl ?_
                refine sm_any rfl (s_append (l := (a.map (.int .i64))) (m := (b.map (.int .i64))) ty41 ty3 rfl rfl hown30 rfl rfl (by refine Even.map _ ?_ _; intro _; rfl) (by intro x hx; obtain ⟨_, _, rfl⟩ := List.mem_map.1 hx; rfl) rfl (by simp; omega) (by simp; omega) ?_)
                intro av32 G32 hown32
                rw [← List.map_append] at hown32
                refine m_one 6 (by kernel_rfl) rfl rfl ?_
                refine sm_callp rfl rfl rfl (path_ok r (a ++ b) _ hsr (by simp; omega) _ hown32.view) ?_
                rintro _ rfl
                refine m_take 7 false rfl rfl (by kernel_rfl) (by kernel_rfl) (by kernel_rfl) (fun _ _ _ _ h => h) (v_move rfl) rfl rfl ?_
                refine m_take 8 false rfl rfl (by kernel_rfl) (by kernel_rfl) (by kernel_rfl) (fun _ _ _ _ h => h) (v_extract rfl rfl) rfl rfl ?_
                refine m_take 9 false rfl rfl (by kernel_rfl) (by kernel_rfl) (by kernel_rfl) (fun _ _ _ _ h => h) (v_extract rfl rfl) rfl rfl ?_
                refine m_one 11 (by kernel_rfl) rfl rfl ?_
                refine sm_any rfl (s_store_all ty28 rfl rfl rfl rfl rfl rfl ?_)
                refine m_take 12 false rfl rfl (by kernel_rfl) (by kernel_rfl) (by kernel_rfl) (fun _ _ _ _ h => h) (v_assign rfl) rfl rfl ?_
                refine m_done (by kernel_rfl) ?_
                first | refine g_keep [1, 2, 8] [3, 7] [3, 7] (keep_cons rfl (keep_cons rfl (keep_cons rfl keep_nil))) (lkeep_cons rfl (lkeep_cons rfl lkeep_nil)) (keep_cons rfl (keep_cons rfl keep_nil)) rfl ?_ | refine g_keep [1, 2, 8] [3, 7] [3, 7] rfl rfl rfl rfl ?_
                exact g_has ⟨rfl, rfl, rfl, ⟨hown32.sub, hsr, by omega, by omega⟩⟩
            · refine ⟨_, rfl, .inl ⟨rfl, ?_⟩⟩
              refine sm_any rfl (s_append (l := []) (m := (a.map (.int .i64))) ty41 ty3 rfl rfl (Own.nil ..) rfl rfl (by refine Even.map _ ?_ _; intro _; rfl) (by intro x hx; obtain ⟨_, _, rfl⟩ := List.mem_map.1 hx; rfl) rfl (by simp; omega) (by simp; omega) ?_)
              intro av30 G30 hown30
              rw [List.nil_append] at hown30
              refine m_all (is := [0, 5, 10]) (by kernel_rfl) rfl (fun _ _ _ => trivial) (fun i hi => ?_)
              rcases (by simpa using hi : i = 0 ∨ i = 5 ∨ i = 10) with rfl | rfl | rfl
              · refine ⟨_, rfl, .inl ⟨rfl, ?_⟩⟩
                refine sm_val (by first | exact v_loadl_all ty28 rfl rfl rfl rfl rfl | exact v_loadl_part (cs := [_, _, _, _, _, _, _]) ty28 rfl rfl rfl rfl rfl rfl) rfl rfl ?_
                refine m_all (is := [5, 10]) (by kernel_rfl) rfl (fun _ _ _ => trivial) (fun i hi => ?_)
                rcases (by simpa using hi : i = 5 ∨ i = 10) with rfl | rfl
                · refine ⟨_, rfl, .inl ⟨rfl, ?_⟩⟩
                  refine sm_any rfl (s_append (l := (a.map (.int .i64))) (m := (b.map (.int .i64))) ty41 ty3 rfl rfl hown30 rfl rfl (by refine Even.map _ ?_ _; intro _; rfl) (by intro x hx; obtain ⟨_, _, rfl⟩ := List.mem_map.1 hx; rfl) rfl (by simp; omega) (by simp; omega) ?_)
                  intro av32 G32 hown32
                  rw [← List.map_append] at hown32
                  refine m_all (is := [6, 10]) (by kernel_rfl) rfl (fun _ _ _ => trivial) (fun i hi => ?_)
                  rcases (by simpa using hi : i = 6 ∨ i = 10) with rfl | rfl
                  · refine ⟨_, rfl, .inl ⟨rfl, ?_⟩⟩
                    refine sm_callp rfl rfl rfl (path_ok r (a ++ b) _ hsr (by simp; omega) _ hown32.view) ?_
                    rintro _ rfl
                    refine m_take 7 false rfl rfl (by kernel_rfl) (by kernel_rfl) (by kernel_rfl) (fun _ _ _ _ h => h) (v_move rfl) rfl rfl ?_
                    refine m_take 8 false rfl rfl (by kernel_rfl) (by kernel_rfl) (by kernel_rfl) (fun _ _ _ _ h => h) (v_extract rfl rfl) rfl rfl ?_
                    refine m_take 9 false rfl rfl (by kernel_rfl) (by kernel_rfl) (by kernel_rfl) (fun _ _ _ _ h => h) (v_extract rfl rfl) rfl rfl ?_
                    refine m_one 10 (by kernel_rfl) rfl rfl ?_
                    refine sm_alloc (av := (.agg [(.int .i64 0), (.int .i64 0), (.int .i64 0), (.int .i64 0), (.int .i64 0), (.bool false), .nil0])) ty28 rfl rfl rfl rfl ?_
                    refine m_one 11 (by kernel_rfl) rfl rfl ?_
                    refine sm_any rfl (s_store_all ty28 rfl rfl rfl rfl rfl rfl ?_)
                    refine m_take 12 false rfl rfl (by kernel_rfl) (by kernel_rfl) (by kernel_rfl) (fun _ _ _ _ h => h) (v_assign rfl) rfl rfl ?_
                    refine m_done (by kernel_rfl) ?_
                    first | refine g_keep [1, 2, 8] [3, 7] [3, 7] (keep_cons rfl (keep_cons rfl (keep_cons rfl keep_nil))) (lkeep_cons rfl (lkeep_cons rfl lkeep_nil)) (keep_cons rfl (keep_cons rfl keep_nil)) rfl ?_ | refine g_keep [1, 2, 8] [3, 7] [3, 7] rfl rfl rfl rfl ?_
                    exact g_has ⟨rfl, rfl, rfl, ⟨hown32.sub, hsr, by omega, by omega⟩⟩
                  · refine ⟨_, rfl, .inl ⟨rfl, ?_⟩⟩
                    refine sm_alloc (av := (.agg [(.int .i64 0), (.int .i64 0), (.int .i64 0), (.int .i64 0), (.int .i64 0), (.bool false), .nil0])) ty28 rfl rfl rfl rfl ?_
                    refine m_one 6 (by kernel_rfl) rfl rfl ?_
                    refine sm_callp rfl rfl rfl (path_ok r (a ++ b) _ hsr (by simp; omega) _ hown32.view) ?_
                    rintro _ rfl
                    refine m_take 7 false rfl rfl (by kernel_rfl) (by kernel_rfl) (by kernel_rfl) (fun _ _ _ _ h => h) (v_move rfl) rfl rfl ?_
                    refine m_take 8 false rfl rfl (by kernel_rfl) (by kernel_rfl) (by kernel_rfl) (fun _ _ _ _ h => h) (v_extract rfl rfl) rfl rfl ?_
                    refine m_take 9 false rfl rfl (by kernel_rfl) (by kernel_rfl) (by kernel_rfl) (fun _ _ _ _ h => h) (v_extract rfl rfl) rfl rfl ?_
                    refine m_one 11 (by kernel_rfl) rfl rfl ?_
                    refine sm_any rfl (s_store_all ty28 rfl rfl rfl rfl rfl rfl ?_)
                    refine m_take 12 false rfl rfl (by kernel_rfl) (by kernel_rfl) (by kernel_rfl) (fun _ _ _ _ h => h) (v_assign rfl) rfl rfl ?_
                    refine m_done (by kernel_rfl) ?_
                    first | refine g_keep [1, 2, 8] [3, 7] [3, 7] (keep_cons rfl (keep_cons rfl (keep_cons rfl keep_nil))) (lkeep_cons rfl (lkeep_cons rfl lkeep_nil)) (keep_cons rfl (keep_cons rfl keep_nil)) rfl ?_ | refine g_keep [1, 2, 8] [3, 7] [3, 7] rfl rfl rfl rfl ?_
                    exact g_has ⟨rfl, rfl, rfl, ⟨hown32.sub, hsr, by omega, by omega⟩⟩
                · refine ⟨_, rfl, .inl ⟨rfl, ?_⟩⟩
                  refine sm_alloc (av := (.agg [(.int .i64 0), (.int .i64 0), (.int .i64 0), (.int .i64 0), (.int .i64 0), (.bool false), .nil0])) ty28 rfl rfl rfl rfl ?_
                  refine m_one 5 (by kernel_rfl) rfl rfl ?_
                  refine sm_any rfl (s_append (l := (a.map (.int .i64))) (m := (b.map (.int .i64))) ty41 ty3 rfl rfl hown30 rfl rfl (by refine Even.map _ ?_ _; intro _; rfl) (by intro x hx; obtain ⟨_, _, rfl⟩ := List.mem_map.1 hx; rfl) rfl (by simp; omega) (by simp; omega) ?_)
                  intro av32 G32 hown32
                  rw [← List.map_append] at hown32
                  refine m_one 6 (by kernel_rfl) rfl rfl ?_
                  refine sm_callp rfl rfl rfl (path_ok r (a ++ b) _ hsr (by simp; omega) _ hown32.view) ?_
                  rintro _ rfl
                  refine m_take 7 false rfl rfl (by kernel_rfl) (by kernel_rfl) (by kernel_rfl) (fun _ _ _ _ h => h) (v_move rfl) rfl rfl ?_
                  refine m_take 8 false rfl rfl (by kernel_rfl) (by kernel_rfl) (by kernel_rfl) (fun _ _ _ _ h => h) (v_extract rfl rfl) rfl rfl ?_
                  refine m_take 9 false rfl rfl (by kernel_rfl) (by kernel_rfl) (by kernel_rfl) (fun _ _ _ _ h => h) (v_extract rfl rfl) rfl rfl ?_
                  refine m_one 11 (by kernel_rfl) rfl rfl ?_
                  refine sm_any rfl (s_store_all ty28 rfl rfl rfl rfl rfl rfl ?_)
                  refine m_take 12 false rfl rfl (by kernel_rfl) (by kernel_rfl) (by kernel_rfl) (fun _ _ _ _ h => h) (v_assign rfl) rfl rfl ?_
                  refine m_done (by kernel_rfl) ?_
                  first | refine g_keep [1, 2, 8] [3, 7] [3, 7] (keep_cons rfl (keep_cons rfl (keep_cons rfl keep_nil))) (lkeep_cons rfl (lkeep_cons rfl lkeep_nil)) (keep_cons rfl (keep_cons rfl keep_nil)) rfl ?_ | refine g_keep [1, 2, 8] [3, 7] [3, 7] rfl rfl rfl rfl ?_
                  exact g_has ⟨rfl, rfl, rfl, ⟨hown32.sub, hsr, by omega, by omega⟩⟩
              · refine ⟨_, rfl, .inl ⟨rfl, ?_⟩⟩
                refine sm_any rfl (s_append (l := (a.map (.int .i64))) (m := (b.map (.int .i64))) ty41 ty3 rfl rfl hown30 rfl rfl (by refine Even.map _ ?_ _; intro _; rfl) (by intro x hx; obtain ⟨_, _, rfl⟩ := List.mem_map.1 hx; rfl) rfl (by simp; omega) (by simp; omega) ?_)
                intro av32 G32 hown32
                rw [← List.map_append] at hown32
                refine m_take 0 true rfl rfl (by kernel_rfl) (by kernel_rfl) (by kernel_rfl) (fun _ _ _ _ h => h) (by first | exact v_loadl_all ty28 rfl rfl rfl rfl rfl | exact v_loadl_part (cs := [_, _, _, _, _, _, _]) ty28 rfl rfl rfl rfl rfl rfl) rfl rfl ?_
                refine m_all (is := [6, 10]) (by kernel_rfl) rfl (fun _ _ _ => trivial) (fun i hi => ?_)
                rcases (by simpa using hi : i = 6 ∨ i = 10) with rfl | rfl
                · refine ⟨_, rfl, .inl ⟨rfl, ?_⟩⟩
                  refine sm_callp rfl rfl rfl (path_ok r (a ++ b) _ hsr (by simp; omega) _ hown32.view) ?_
                  rintro _ rfl
                  refine m_take 7 false rfl rfl (by kernel_rfl) (by kernel_rfl) (by kernel_rfl) (fun _ _ _ _ h => h) (v_move rfl) rfl rfl ?_
                  refine m_take 8 false rfl rfl (by kernel_rfl) (by kernel_rfl) (by kernel_rfl) (fun _ _ _ _ h => h) (v_extract rfl rfl) rfl rfl ?_
                  refine m_take 9 false rfl rfl (by kernel_rfl) (by kernel_rfl) (by kernel_rfl) (fun _ _ _ _ h => h) (v_extract rfl rfl) rfl rfl ?_
                  refine m_one 10 (by kernel_rfl) rfl rfl ?_
                  refine sm_alloc (av := (.agg [(.int .i64 0), (.int .i64 0), (.int .i64 0), (.int .i64 0), (.int .i64 0), (.bool false), .nil0])) ty28 rfl rfl rfl rfl ?_
                  refine m_one 11 (by kernel_rfl) rfl rfl ?_
                  refine sm_any rfl (s_store_all ty28 rfl rfl rfl rfl rfl rfl ?_)
                  refine m_take 12 false rfl rfl (by kernel_rfl) (by kernel_rfl) (by kernel_rfl) (fun _ _ _ _ h => h) (v_assign rfl) rfl rfl ?_
                  refine m_done (by kernel_rfl) ?_
                  first | refine g_keep [1, 2, 8] [3, 7] [3, 7] (keep_cons rfl (keep_cons rfl (keep_cons rfl keep_nil))) (lkeep_cons rfl (lkeep_cons rfl lkeep_nil)) (keep_cons rfl (keep_cons rfl keep_nil)) rfl ?_ | refine g_keep [1, 2, 8] [3, 7] [3, 7] rfl rfl rfl rfl ?_
                  exact g_has ⟨rfl, rfl, rfl, ⟨hown32.sub, hsr, by omega, by omega⟩⟩
                · refine ⟨_, rfl, .inl ⟨rfl, ?_⟩⟩
                  refine sm_alloc (av := (.agg [(.int .i64 0), (.int .i64 0), (.int .i64 0), (.int .i64 0), (.int .i64 0), (.bool false), .nil0])) ty28 rfl rfl rfl rfl ?_
                  refine m_one 6 (by kernel_rfl) rfl rfl ?_
                  refine sm_callp rfl rfl rfl (path_ok r (a ++ b) _ hsr (by simp; omega) _ hown32.view) ?_
                  rintro _ rfl
                  refine m_take 7 false rfl rfl (by kernel_rfl) (by kernel_rfl) (by kernel_rfl) (fun _ _ _ _ h => h) (v_move rfl) rfl rfl ?_
                  refine m_take 8 false rfl rfl (by kernel_rfl) (by kernel_rfl) (by kernel_rfl) (fun _ _ _ _ h => h) (v_extract rfl rfl) rfl rfl ?_
                  refine m_take 9 false rfl rfl (by kernel_rfl) (by kernel_rfl) (by kernel_rfl) (fun _ _ _ _ h => h) (v_extract rfl rfl) rfl rfl ?_
                  refine m_one 11 (by kernel_rfl) rfl rfl ?_
                  refine sm_any rfl (s_store_all ty28 rfl rfl rfl rfl rfl rfl ?_)
                  refine m_take 12 false rfl rfl (by kernel_rfl) (by kernel_rfl) (by kernel_rfl) (fun _ _ _ _ h => h) (v_assign rfl) rfl rfl ?_
                  refine m_done (by kernel_rfl) ?_
                  first | refine g_keep [1, 2, 8] [3, 7] [3, 7] (keep_cons rfl (keep_cons rfl (keep_cons rfl keep_nil))) (lkeep_cons rfl (lkeep_cons rfl lkeep_nil)) (keep_cons rfl (keep_cons rfl keep_nil)) rfl ?_ | refine g_keep [1, 2, 8] [3, 7] [3, 7] rfl rfl rfl rfl ?_
                  exact g_has ⟨rfl, rfl, rfl, ⟨hown32.sub, hsr, by omega, by omega⟩⟩
              · refine ⟨_, rfl, .inl ⟨rfl, ?_⟩⟩
                refine sm_alloc (av := (.agg [(.int .i64 0), (.int .i64 0), (.int .i64 0), (.int .i64 0), (.int .i64 0), (.bool false), .nil0])) ty28 rfl rfl rfl rfl ?_
                refine m_all (is := [0, 5]) (by kernel_rfl) rfl (fun _ _ _ => trivial) (fun i hi => ?_)
                rcases (by simpa using hi : i = 0 ∨ i = 5) with rfl | rfl
                · refine ⟨_, rfl, .inl ⟨rfl, ?_⟩⟩
                  refine sm_val (by first | exact v_loadl_all ty28 rfl rfl rfl rfl rfl | exact v_loadl_part (cs := [_, _, _, _, _, _, _]) ty28 rfl rfl rfl rfl rfl rfl) rfl rfl ?_
                  refine m_one 5 (by kernel_rfl) rfl rfl ?_
                  refine sm_any rfl (s_append (l := (a.map (.int .i64))) (m := (b.map (.int .i64))) ty41 ty3 rfl rfl hown30 rfl rfl (by refine Even.map _ ?_ _; intro _; rfl) (by intro x hx; obtain ⟨_, _, rfl⟩ := List.mem_map.1 hx; rfl) rfl (by simp; omega) (by simp; omega) ?_)
                  intro av32 G32 hown32
                  rw [← List.map_append] at hown32
                  refine m_one 6 (by kernel_rfl) rfl rfl ?_
                  refine sm_callp rfl rfl rfl (path_ok r (a ++ b) _ hsr (by simp; omega) _ hown32.view) ?_
                  rintro _ rfl
                  refine m_take 7 false rfl rfl (by kernel_rfl) (by kernel_rfl) (by kernel_rfl) (fun _ _ _ _ h => h) (v_move rfl) rfl rfl ?_
                  refine m_take 8 false rfl rfl (by kernel_rfl) (by kernel_rfl) (by kernel_rfl) (fun _ _ _ _ h => h) (v_extract rfl rfl) rfl rfl ?_
                  refine m_take 9 false rfl rfl (by kernel_rfl) (by kernel_rfl) (by kernel_rfl) (fun _ _ _ _ h => h) (v_extract rfl rfl) rfl rfl ?_
                  refine m_one 11 (by kernel_rfl) rfl rfl ?_
                  refine sm_any rfl (s_store_all ty28 rfl rfl rfl rfl rfl rfl ?_)
                  refine m_take 12 false rfl rfl (by kernel_rfl) (by kernel_rfl) (by kernel_rfl) (fun _ _ _ _ h => h) (v_assign rfl) rfl rfl ?_
                  refine m_done (by kernel_rfl) ?_
                  first | refine g_keep [1, 2, 8] [3, 7] [3, 7] (keep_cons rfl (keep_cons rfl (keep_cons rfl keep_nil))) (lkeep_cons rfl (lkeep_cons rfl lkeep_nil)) (keep_cons rfl (keep_cons rfl keep_nil)) rfl ?_ | refine g_keep [1, 2, 8] [3, 7] [3, 7] rfl rfl rfl rfl ?_
                  exact g_has ⟨rfl, rfl, rfl, ⟨hown32.sub, hsr, by omega, by omega⟩⟩
                · refine ⟨_, rfl, .inl ⟨rfl, ?_⟩⟩
                  refine sm_any rfl (s_append (l := (a.map (.int .i64))) (m := (b.map (.int .i64))) ty41 ty3 rfl rfl hown30 rfl rfl (by refine Even.map _ ?_ _; intro _; rfl) (by intro x hx; obtain ⟨_, _, rfl⟩ := List.mem_map.1 hx; rfl) rfl (by simp; omega) (by simp; omega) ?_)
                  intro av32 G32 hown32
                  rw [← List.map_append] at hown32
                  refine m_take 0 true rfl rfl (by kernel_rfl) (by kernel_rfl) (by kernel_rfl) (fun _ _ _ _ h => h) (by first | exact v_loadl_all ty28 rfl rfl rfl rfl rfl | exact v_loadl_part (cs := [_, _, _, _, _, _, _]) ty28 rfl rfl rfl rfl rfl rfl) rfl rfl ?_
                  refine m_one 6 (by kernel_rfl) rfl rfl ?_
                  refine sm_callp rfl rfl rfl (path_ok r (a ++ b) _ hsr (by simp; omega) _ hown32.view) ?_
                  rintro _ rfl
                  refine m_take 7 false rfl rfl (by kernel_rfl) (by kernel_rfl) (by kernel_rfl) (fun _ _ _ _ h => h) (v_move rfl) rfl rfl ?_
                  refine m_take 8 false rfl rfl (by kernel_rfl) (by kernel_rfl) (by kernel_rfl) (fun _ _ _ _ h => h) (v_extract rfl rfl) rfl rfl ?_
                  refine m_take 9 false rfl rfl (by kernel_rfl) (by kernel_rfl) (by kernel_rfl) (fun _ _ _ _ h => h) (v_extract rfl rfl) rfl rfl ?_
                  refine m_one 11 (by kernel_rfl) rfl rfl ?_
                  refine sm_any rfl (s_store_all ty28 rfl rfl rfl rfl rfl rfl ?_)
                  refine m_take 12 false rfl rfl (by kernel_rfl) (by kernel_rfl) (by kernel_rfl) (fun _ _ _ _ h => h) (v_assign rfl) rfl rfl ?_
                  refine m_done (by kernel_rfl) ?_
                  first | refine g_keep [1, 2, 8] [3, 7] [3, 7] (keep_cons rfl (keep_cons rfl (keep_cons rfl keep_nil))) (lkeep_cons rfl (lkeep_cons rfl lkeep_nil)) (keep_cons rfl (keep_cons rfl keep_nil)) rfl ?_ | refine g_keep [1, 2, 8] [3, 7] [3, 7] rfl rfl rfl rfl ?_
                  exact g_has ⟨rfl, rfl, rfl, ⟨hown32.sub, hsr, by omega, by omega⟩⟩
            · refine ⟨_, rfl, .inl ⟨rfl, ?_⟩⟩
              refine sm_alloc (av := (.agg [(.int .i64 0), (.int .i64 0), (.int .i64 0), (.int .i64 0), (.int .i64 0), (.bool false), .nil0])) ty28 rfl rfl rfl rfl ?_
              refine m_all (is := [0, 3]) (by kernel_rfl) rfl (fun _ _ _ => trivial) (fun i hi => ?_)
              rcases (by simpa using hi : i = 0 ∨ i = 3) with rfl | rfl
              · refine ⟨_, rfl, .inl ⟨rfl, ?_⟩⟩
                refine sm_val (by first | exact v_loadl_all ty28 rfl rfl rfl rfl rfl | exact v_loadl_part (cs := [_, _, _, _, _, _, _]) ty28 rfl rfl rfl rfl rfl rfl) rfl rfl ?_
                refine m_one 3 (by kernel_rfl) rfl rfl ?_
                refine sm_any rfl (s_append (l := []) (m := (a.map (.int .i64))) ty41 ty3 rfl rfl (Own.nil ..) rfl rfl (by refine Even.map _ ?_ _; intro _; rfl) (by intro x hx; obtain ⟨_, _, rfl⟩ := List.mem_map.1 hx; rfl) rfl (by simp; omega) (by simp; omega) ?_)
                intro av30 G30 hown30
                rw [List.nil_append] at hown30
                refine m_one 5 (by kernel_rfl) rfl rfl ?_
                refine sm_any rfl (s_append (l := (a.map (.int .i64))) (m := (b.map (.int .i64))) ty41 ty3 rfl rfl hown30 rfl rfl (by refine Even.map _ ?_ _; intro _; rfl) (by intro x hx; obtain ⟨_, _, rfl⟩ := List.mem_map.1 hx; rfl) rfl (by simp; omega) (by simp; omega) ?_)
                intro av32 G32 hown32
                rw [← List.map_append] at hown32
                refine m_one 6 (by kernel_rfl) rfl rfl ?_
                refine sm_callp rfl rfl rfl (path_ok r (a ++ b) _ hsr (by simp; omega) _ hown32.view) ?_
                rintro _ rfl
                refine m_take 7 false rfl rfl (by kernel_rfl) (by kernel_rfl) (by kernel_rfl) (fun _ _ _ _ h => h) (v_move rfl) rfl rfl ?_
                refine m_take 8 false rfl rfl (by kernel_rfl) (by kernel_rfl) (by kernel_rfl) (fun _ _ _ _ h => h) (v_extract rfl rfl) rfl rfl ?_
                refine m_take 9 false rfl rfl (by kernel_rfl) (by kernel_rfl) (by kernel_rfl) (fun _ _ _ _ h => h) (v_extract rfl rfl) rfl rfl ?_
                refine m_one 11 (by kernel_rfl) rfl rfl ?_
                refine sm_any rfl (s_store_all ty28 rfl rfl rfl rfl rfl rfl ?_)
                refine m_take 12 false rfl rfl (by kernel_rfl) (by kernel_rfl) (by kernel_rfl) (fun _ _ _ _ h => h) (v_assign rfl) rfl rfl ?_
                refine m_done (by kernel_rfl) ?_
                first | refine g_keep [1, 2, 8] [3, 7] [3, 7] (keep_cons rfl (keep_cons rfl (keep_cons rfl keep_nil))) (lkeep_cons rfl (lkeep_cons rfl lkeep_nil)) (keep_cons rfl (keep_cons rfl keep_nil)) rfl ?_ | refine g_keep [1, 2, 8] [3, 7] [3, 7] rfl rfl rfl rfl ?_
                exact g_has ⟨rfl, rfl, rfl, ⟨hown32.sub, hsr, by omega, by omega⟩⟩
              · refine ⟨_, rfl, .inl ⟨rfl, ?_⟩⟩
                refine sm_any rfl (s_append (l := []) (m := (a.map (.int .i64))) ty41 ty3 rfl rfl (Own.nil ..) rfl rfl (by refine Even.map _ ?_ _; intro _; rfl) (by intro x hx; obtain ⟨_, _, rfl⟩ := List.mem_map.1 hx; rfl) rfl (by simp; omega) (by simp; omega) ?_)
                intro av30 G30 hown30
                rw [List.nil_append] at hown30
                refine m_all (is := [0, 5]) (by kernel_rfl) rfl (fun _ _ _ => trivial) (fun i hi => ?_)
                rcases (by simpa using hi : i = 0 ∨ i = 5) with rfl | rfl
                · refine ⟨_, rfl, .inl ⟨rfl, ?_⟩⟩
                  refine sm_val (by first | exact v_loadl_all ty28 rfl rfl rfl rfl rfl | exact v_loadl_part (cs := [_, _, _, _, _, _, _]) ty28 rfl rfl rfl rfl rfl rfl) rfl rfl ?_
                  refine m_one 5 (by kernel_rfl) rfl rfl ?_
                  refine sm_any rfl (s_append (l := (a.map (.int .i64))) (m := (b.map (.int .i64))) ty41 ty3 rfl rfl hown30 rfl rfl (by refine Even.map _ ?_ _; intro _; rfl) (by intro x hx; obtain ⟨_, _, rfl⟩ := List.mem_map.1 hx; rfl) rfl (by simp; omega) (by simp; omega) ?_)
                  intro av32 G32 hown32
                  rw [← List.map_append] at hown32
                  refine m_one 6 (by kernel_rfl) rfl rfl ?_
                  refine sm_callp rfl rfl rfl (path_ok r (a ++ b) _ hsr (by simp; omega) _ hown32.view) ?_
                  rintro _ rfl
                  refine m_take 7 false rfl rfl (by kernel_rfl) (by kernel_rfl) (by kernel_rfl) (fun _ _ _ _ h => h) (v_move rfl) rfl rfl ?_
                  refine m_take 8 false rfl rfl (by kernel_rfl) (by kernel_rfl) (by kernel_rfl) (fun _ _ _ _ h => h) (v_extract rfl rfl) rfl rfl ?_
                  refine m_take 9 false rfl rfl (by kernel_rfl) (by kernel_rfl) (by kernel_rfl) (fun _ _ _ _ h => h) (v_extract rfl rfl) rfl rfl ?_
                  refine m_one 11 (by kernel_rfl) rfl rfl ?_
                  refine sm_any rfl (s_store_all ty28 rfl rfl rfl rfl rfl rfl ?_)
                  refine m_take 12 false rfl rfl (by kernel_rfl) (by kernel_rfl) (by kernel_rfl) (fun _ _ _ _ h => h) (v_assign rfl) rfl rfl ?_
                  refine m_done (by kernel_rfl) ?_
                  first | refine g_keep [1, 2, 8] [3, 7] [3, 7] (keep_cons rfl (keep_cons rfl (keep_cons rfl keep_nil))) (lkeep_cons rfl (lkeep_cons rfl lkeep_nil)) (keep_cons rfl (keep_cons rfl keep_nil)) rfl ?_ | refine g_keep [1, 2, 8] [3, 7] [3, 7] rfl rfl rfl rfl ?_
                  exact g_has ⟨rfl, rfl, rfl, ⟨hown32.sub, hsr, by omega, by omega⟩⟩
                · refine ⟨_, rfl, .inl ⟨rfl, ?_⟩⟩
                  refine sm_any rfl (s_append (l := (a.map (.int .i64))) (m := (b.map (.int .i64))) ty41 ty3 rfl rfl hown30 rfl rfl (by refine Even.map _ ?_ _; intro _; rfl) (by intro x hx; obtain ⟨_, _, rfl⟩ := List.mem_map.1 hx; rfl) rfl (by simp; omega) (by simp; omega) ?_)
                  intro av32 G32 hown32
                  rw [← List.map_append] at hown32
                  refine m_take 0 true rfl rfl (by kernel_rfl) (by kernel_rfl) (by kernel_rfl) (fun _ _ _ _ h => h) (by first | exact v_loadl_all ty28 rfl rfl rfl rfl rfl | exact v_loadl_part (cs := [_, _, _, _, _, _, _]) ty28 rfl rfl rfl rfl rfl rfl) rfl rfl ?_
                  refine m_one 6 (by kernel_rfl) rfl rfl ?_
                  refine sm_callp rfl rfl rfl (path_ok r (a ++ b) _ hsr (by simp; omega) _ hown32.view) ?_
                  rintro _ rfl
                  refine m_take 7 false rfl rfl (by kernel_rfl) (by kernel_rfl) (by kernel_rfl) (fun _ _ _ _ h => h) (v_move rfl) rfl rfl ?_
                  refine m_take 8 false rfl rfl (by kernel_rfl) (by kernel_rfl) (by kernel_rfl) (fun _ _ _ _ h => h) (v_extract rfl rfl) rfl rfl ?_
                  refine m_take 9 false rfl rfl (by kernel_rfl) (by kernel_rfl) (by kernel_rfl) (fun _ _ _ _ h => h) (v_extract rfl rfl) rfl rfl ?_
                  refine m_one 11 (by kernel_rfl) rfl rfl ?_
                  refine sm_any rfl (s_store_all ty28 rfl rfl rfl rfl rfl rfl ?_)
                  refine m_take 12 false rfl rfl (by kernel_rfl) (by kernel_rfl) (by kernel_rfl) (fun _ _ _ _ h => h) (v_assign rfl) rfl rfl ?_
                  refine m_done (by kernel_rfl) ?_
                  first | refine g_keep [1, 2, 8] [3, 7] [3, 7] (keep_cons rfl (keep_cons rfl (keep_cons rfl keep_nil))) (lkeep_cons rfl (lkeep_cons rfl lkeep_nil)) (keep_cons rfl (keep_cons rfl keep_nil)) rfl ?_ | refine g_keep [1, 2, 8] [3, 7] [3, 7] rfl rfl rfl rfl ?_
                  exact g_has ⟨rfl, rfl, rfl, ⟨hown32.sub, hsr, by omega, by omega⟩⟩
          · refine ⟨_, rfl, .inl ⟨rfl, ?_⟩⟩
            refine sm_alloc (av := (.agg [(.int .i64 0), (.int .i64 0), (.int .i64 0), (.int .i64 0), (.int .i64 0), (.bool false), .nil0])) ty28 rfl rfl rfl rfl ?_
            refine m_all (is := [0, 1]) (by kernel_rfl) rfl (fun _ _ _ => trivial) (fun i hi => ?_)
            rcases (by simpa using hi : i = 0 ∨ i = 1) with rfl | rfl
            · refine ⟨_, rfl, .inl ⟨rfl, ?_⟩⟩
              refine sm_val (by first | exact v_loadl_all ty28 rfl rfl rfl rfl rfl | exact v_loadl_part (cs := [_, _, _, _, _, _, _]) ty28 rfl rfl rfl rfl rfl rfl) rfl rfl ?_
              refine m_one 1 (by kernel_rfl) rfl rfl ?_
              refine sm_lit0 ty41 ty3 rfl ?_
              refine m_one 3 (by kernel_rfl) rfl rfl ?_
              refine sm_any rfl (s_append (l := []) (m := (a.map (.int .i64))) ty41 ty3 rfl rfl (Own.nil ..) rfl rfl (by refine Even.map _ ?_ _; intro _; rfl) (by intro x hx; obtain ⟨_, _, rfl⟩ := List.mem_map.1 hx; rfl) rfl (by simp; omega) (by simp; omega) ?_)
              intro av30 G30 hown30
              rw [List.nil_append] at hown30
              refine m_one 5 (by kernel_rfl) rfl rfl ?_
              refine sm_any rfl (s_append (l := (a.map (.int .i64))) (m := (b.map (.int .i64))) ty41 ty3 rfl rfl hown30 rfl rfl (by refine Even.map _ ?_ _; intro _; rfl) (by intro x hx; obtain ⟨_, _, rfl⟩ := List.mem_map.1 hx; rfl) rfl (by simp; omega) (by simp; omega) ?_)
              intro av32 G32 hown32
              rw [← List.map_append] at hown32
              refine m_one 6 (by kernel_rfl) rfl rfl ?_
              refine sm_callp rfl rfl rfl (path_ok r (a ++ b) _ hsr (by simp; omega) _ hown32.view) ?_
              rintro _ rfl
              refine m_take 7 false rfl rfl (by kernel_rfl) (by kernel_rfl) (by kernel_rfl) (fun _ _ _ _ h => h) (v_move rfl) rfl rfl ?_
              refine m_take 8 false rfl rfl (by kernel_rfl) (by kernel_rfl) (by kernel_rfl) (fun _ _ _ _ h => h) (v_extract rfl rfl) rfl rfl ?_
              refine m_take 9 false rfl rfl (by kernel_rfl) (by kernel_rfl) (by kernel_rfl) (fun _ _ _ _ h => h) (v_extract rfl rfl) rfl rfl ?_
              refine m_one 11 (by kernel_rfl) rfl rfl ?_
              refine sm_any rfl (s_store_all ty28 rfl rfl rfl rfl rfl rfl ?_)
              refine m_take 12 false rfl rfl (by kernel_rfl) (by kernel_rfl) (by kernel_rfl) (fun _ _ _ _ h => h) (v_assign rfl) rfl rfl ?_
              refine m_done (by kernel_rfl) ?_
              first | refine g_keep [1, 2, 8] [3, 7] [3, 7] (keep_cons rfl (keep_cons rfl (keep_cons rfl keep_nil))) (lkeep_cons rfl (lkeep_cons rfl lkeep_nil)) (keep_cons rfl (keep_cons rfl keep_nil)) rfl ?_ | refine g_keep [1, 2, 8] [3, 7] [3, 7] rfl rfl rfl rfl ?_
              exact g_has ⟨rfl, rfl, rfl, ⟨hown32.sub, hsr, by omega, by omega⟩⟩
            · refine ⟨_, rfl, .inl ⟨rfl, ?_⟩⟩
              refine sm_lit0 ty41 ty3 rfl ?_
              refine m_all (is := [0, 3]) (by kernel_rfl) rfl (fun _ _ _ => trivial) (fun i hi => ?_)
              rcases (by simpa using hi : i = 0 ∨ i = 3) with rfl | rfl
              · refine ⟨_, rfl, .inl ⟨rfl, ?_⟩⟩
                refine sm_val (by first | exact v_loadl_all ty28 rfl rfl rfl rfl rfl | exact v_loadl_part (cs := [_, _, _, _, _, _, _]) ty28 rfl rfl rfl rfl rfl rfl) rfl rfl ?_
                refine m_one 3 (by kernel_rfl) rfl rfl ?_
                refine sm_any rfl (s_append (l := []) (m := (a.map (.int .i64))) ty41 ty3 rfl rfl (Own.nil ..) rfl rfl (by refine Even.map _ ?_ _; intro _; rfl) (by intro x hx; obtain ⟨_, _, rfl⟩ := List.mem_map.1 hx; rfl) rfl (by simp; omega) (by simp; omega) ?_)
                intro av30 G30 hown30
                rw [List.nil_append] at hown30
                refine m_one 5 (by kernel_rfl) rfl rfl ?_
                refine sm_any rfl (s_append (l := (a.map (.int .i64))) (m := (b.map (.int .i64))) ty41 ty3 rfl rfl hown30 rfl rfl (by refine Even.map _ ?_ _; intro _; rfl) (by intro x hx; obtain ⟨_, _, rfl⟩ := List.mem_map.1 hx; rfl) rfl (by simp; omega) (by simp; omega) ?_)
                intro av32 G32 hown32
                rw [← List.map_append] at hown32
                refine m_one 6 (by kernel_rfl) rfl rfl ?_
                refine sm_callp rfl rfl rfl (path_ok r (a ++ b) _ hsr (by simp; omega) _ hown32.view) ?_
                rintro _ rfl
                refine m_take 7 false rfl rfl (by kernel_rfl) (by kernel_rfl) (by kernel_rfl) (fun _ _ _ _ h => h) (v_move rfl) rfl rfl ?_
                refine m_take 8 false rfl rfl (by kernel_rfl) (by kernel_rfl) (by kernel_rfl) (fun _ _ _ _ h => h) (v_extract rfl rfl) rfl rfl ?_
                refine m_take 9 false rfl rfl (by kernel_rfl) (by kernel_rfl) (by kernel_rfl) (fun _ _ _ _ h => h) (v_extract rfl rfl) rfl rfl ?_
                refine m_one 11 (by kernel_rfl) rfl rfl ?_
                refine sm_any rfl (s_store_all ty28 rfl rfl rfl rfl rfl rfl ?_)
                refine m_take 12 false rfl rfl (by kernel_rfl) (by kernel_rfl) (by kernel_rfl) (fun _ _ _ _ h => h) (v_assign rfl) rfl rfl ?_
                refine m_done (by kernel_rfl) ?_
                first | refine g_keep [1, 2, 8] [3, 7] [3, 7] (keep_cons rfl (keep_cons rfl (keep_cons rfl keep_nil))) (lkeep_cons rfl (lkeep_cons rfl lkeep_nil)) (keep_cons rfl (keep_cons rfl keep_nil)) rfl ?_ | refine g_keep [1, 2, 8] [3, 7] [3, 7] rfl rfl rfl rfl ?_
                exact g_has ⟨rfl, rfl, rfl, ⟨hown32.sub, hsr, by omega, by omega⟩⟩
              · refine ⟨_, rfl, .inl ⟨rfl, ?_⟩⟩
                refine sm_any rfl (s_append (l := []) (m := (a.map (.int .i64))) ty41 ty3 rfl rfl (Own.nil ..) rfl rfl (by refine Even.map _ ?_ _; intro _; rfl) (by intro x hx; obtain ⟨_, _, rfl⟩ := List.mem_map.1 hx; rfl) rfl (by simp; omega) (by simp; omega) ?_)
                intro av30 G30 hown30
                rw [List.nil_append] at hown30
                refine m_all (is := [0, 5]) (by kernel_rfl) rfl (fun _ _ _ => trivial) (fun i hi => ?_)
                rcases (by simpa using hi : i = 0 ∨ i = 5) with rfl | rfl
                · refine ⟨_, rfl, .inl ⟨rfl, ?_⟩⟩
                  refine sm_val (by first | exact v_loadl_all ty28 rfl rfl rfl rfl rfl | exact v_loadl_part (cs := [_, _, _, _, _, _, _]) ty28 rfl rfl rfl rfl rfl rfl) rfl rfl ?_
                  refine m_one 5 (by kernel_rfl) rfl rfl ?_
                  refine sm_any rfl (s_append (l := (a.map (.int .i64))) (m := (b.map (.int .i64))) ty41 ty3 rfl rfl hown30 rfl rfl (by refine Even.map _ ?_ _; intro _; rfl) (by intro x hx; obtain ⟨_, _, rfl⟩ := List.mem_map.1 hx; rfl) rfl (by simp; omega) (by simp; omega) ?_)
                  intro av32 G32 hown32
                  rw [← List.map_append] at hown32
                  refine m_one 6 (by kernel_rfl) rfl rfl ?_
                  refine sm_callp rfl rfl rfl (path_ok r (a ++ b) _ hsr (by simp; omega) _ hown32.view) ?_
                  rintro _ rfl
                  refine m_take 7 false rfl rfl (by kernel_rfl) (by kernel_rfl) (by kernel_rfl) (fun _ _ _ _ h => h) (v_move rfl) rfl rfl ?_
                  refine m_take 8 false rfl rfl (by kernel_rfl) (by kernel_rfl) (by kernel_rfl) (fun _ _ _ _ h => h) (v_extract rfl rfl) rfl rfl ?_
                  refine m_take 9 false rfl rfl (by kernel_rfl) (by kernel_rfl) (by kernel_rfl) (fun _ _ _ _ h => h) (v_extract rfl rfl) rfl rfl ?_
                  refine m_one 11 (by kernel_rfl) rfl rfl ?_
                  refine sm_any rfl (s_store_all ty28 rfl rfl rfl rfl rfl rfl ?_)
                  refine m_take 12 false rfl rfl (by kernel_rfl) (by kernel_rfl) (by kernel_rfl) (fun _ _ _ _ h => h) (v_assign rfl) rfl rfl ?_
                  refine m_done (by kernel_rfl) ?_
                  first | refine g_keep [1, 2, 8] [3, 7] [3, 7] (keep_cons rfl (keep_cons rfl (keep_cons rfl keep_nil))) (lkeep_cons rfl (lkeep_cons rfl lkeep_nil)) (keep_cons rfl (keep_cons rfl keep_nil)) rfl ?_ | refine g_keep [1, 2, 8] [3, 7] [3, 7] rfl rfl rfl rfl ?_
                  exact g_has ⟨rfl, rfl, rfl, ⟨hown32.sub, hsr, by omega, by omega⟩⟩
                · refine ⟨_, rfl, .inl ⟨rfl, ?_⟩⟩
                  refine sm_any rfl (s_append (l := (a.map (.int .i64))) (m := (b.map (.int .i64))) ty41 ty3 rfl rfl hown30 rfl rfl (by refine Even.map _ ?_ _; intro _; rfl) (by intro x hx; obtain ⟨_, _, rfl⟩ := List.mem_map.1 hx; rfl) rfl (by simp; omega) (by simp; omega) ?_)
                  intro av32 G32 hown32
                  rw [← List.map_append] at hown32
                  refine m_take 0 true rfl rfl (by kernel_rfl) (by kernel_rfl) (by kernel_rfl) (fun _ _ _ _ h => h) (by first | exact v_loadl_all ty28 rfl rfl rfl rfl rfl | exact v_loadl_part (cs := [_, _, _, _, _, _, _]) ty28 rfl rfl rfl rfl rfl rfl) rfl rfl ?_
                  refine m_one 6 (by kernel_rfl) rfl rfl ?_
                  refine sm_callp rfl rfl rfl (path_ok r (a ++ b) _ hsr (by simp; omega) _ hown32.view) ?_
                  rintro _ rfl
                  refine m_take 7 false rfl rfl (by kernel_rfl) (by kernel_rfl) (by kernel_rfl) (fun _ _ _ _ h => h) (v_move rfl) rfl rfl ?_
                  refine m_take 8 false rfl rfl (by kernel_rfl) (by kernel_rfl) (by kernel_rfl) (fun _ _ _ _ h => h) (v_extract rfl rfl) rfl rfl ?_
                  refine m_take 9 false rfl rfl (by kernel_rfl) (by kernel_rfl) (by kernel_rfl) (fun _ _ _ _ h => h) (v_extract rfl rfl) rfl rfl ?_
                  refine m_one 11 (by kernel_rfl) rfl rfl ?_
                  refine sm_any rfl (s_store_all ty28 rfl rfl rfl rfl rfl rfl ?_)
                  refine m_take 12 false rfl rfl (by kernel_rfl) (by kernel_rfl) (by kernel_rfl) (fun _ _ _ _ h => h) (v_assign rfl) rfl rfl ?_
                  refine m_done (by kernel_rfl) ?_
                  first | refine g_keep [1, 2, 8] [3, 7] [3, 7] (keep_cons rfl (keep_cons rfl (keep_cons rfl keep_nil))) (lkeep_cons rfl (lkeep_cons rfl lkeep_nil)) (keep_cons rfl (keep_cons rfl keep_nil)) rfl ?_ | refine g_keep [1, 2, 8] [3, 7] [3, 7] rfl rfl rfl rfl ?_
                  exact g_has ⟨rfl, rfl, rfl, ⟨hown32.sub, hsr, by omega, by omega⟩⟩
        · skip
          obtain ⟨rfl, rfl, rfl, hHG, hsr, hla10, hlb10⟩ := hI
          refine g_cut (fun env L B G => env = [(8, .bool (cpath r (a ++ b)).2), (10, .bool (cpath r (b ++ a)).2)] ∧ L = [(7, 7, 0), (9, 9, 0)] ∧ B = [(7, (encR (cpath r (a ++ b)).1)), (9, (encR (cpath r (b ++ a)).1))] ∧ H.sub G ∧ Small r.bag) ?_ (fun env L B G hI => ?_)
          · skip
            refine g_draw (n := 13) (fun j => !([3, 5, 11] : List Nat).contains j) rfl rfl ?_
            refine m_take 2 false rfl rfl (by kernel_rfl) (by kernel_rfl) (by kernel_rfl) (fun _ _ _ _ h => h) (v_move rfl) rfl rfl ?_
            refine m_take 4 false rfl rfl (by kernel_rfl) (by kernel_rfl) (by kernel_rfl) (fun _ _ _ _ h => h) (v_move rfl) rfl rfl ?_
            refine m_all (is := [0, 1, 10]) (by kernel_rfl) rfl (fun _ _ _ => trivial) (fun i hi => ?_)
            rcases (by simpa using hi : i = 0 ∨ i = 1 ∨ i = 10) with rfl | rfl | rfl
            · refine ⟨_, rfl, .inl ⟨rfl, ?_⟩⟩
              refine sm_val (by first | exact v_loadl_all ty28 rfl rfl rfl rfl rfl | exact v_loadl_part (cs := [_, _, _, _, _, _, _]) ty28 rfl rfl rfl rfl rfl rfl) rfl rfl ?_
              refine m_all (is := [1, 10]) (by kernel_rfl) rfl (fun _ _ _ => trivial) (fun i hi => ?_)
              rcases (by simpa using hi : i = 1 ∨ i = 10) with rfl | rfl
              · refine ⟨_, rfl, .inl ⟨rfl, ?_⟩⟩
                refine sm_lit0 ty41 ty3 rfl ?_
                refine m_all (is := [3, 10]) (by kernel_rfl) rfl (fun _ _ _ => trivial) (fun i hi => ?_)
                rcases (by simpa using hi : i = 3 ∨ i = 10) with rfl | rfl
                · refine ⟨_, rfl, .inl ⟨rfl, ?_⟩⟩
                  refine sm_any rfl (s_append (l := []) (m := (b.map (.int .i64))) ty41 ty3 rfl rfl (Own.nil ..) rfl rfl (by refine Even.map _ ?_ _; intro _; rfl) (by intro x hx; obtain ⟨_, _, rfl⟩ := List.mem_map.1 hx; rfl) rfl (by simp; omega) (by simp; omega) ?_)
                  intro av40 G40 hown40
                  rw [List.nil_append] at hown40
                  refine m_all (is := [5, 10]) (by kernel_rfl) rfl (fun _ _ _ => trivial) (fun i hi => ?_)
                  rcases (by simpa using hi : i = 5 ∨ i = 10) with rfl | rfl
                  · refine ⟨_, rfl, .inl ⟨rfl, ?_⟩⟩
                    refine sm_any rfl (s_append (l := (b.map (.int .i64))) (m := (a.map (.int .i64))) ty41 ty3 rfl rfl hown40 rfl rfl (by refine Even.map _ ?_ _; intro _; rfl) (by intro x hx; obtain ⟨_, _, rfl⟩ := List.mem_map.1 hx; rfl) rfl (by simp; omega) (by simp; omega) ?_)
                    intro av42 G42 hown42
                    rw [← List.map_append] at hown42
                    refine m_all (is := [6, 10]) (by kernel_rfl) rfl (fun _ _ _ => trivial) (fun i hi => ?_)
                    rcases (by simpa using hi : i = 6 ∨ i = 10) with rfl | rfl
                    · refine ⟨_, rfl, .inl ⟨rfl, ?_⟩⟩
                      refine sm_callp rfl rfl rfl (path_ok r (b ++ a) _ hsr (by simp; omega) _ hown42.view) ?_
                      rintro _ rfl
                      refine m_take 7 false rfl rfl (by kernel_rfl) (by kernel_rfl) (by kernel_rfl) (fun _ _ _ _ h => h) (v_move rfl) rfl rfl ?_
                      refine m_take 8 false rfl rfl (by kernel_rfl) (by kernel_rfl) (by kernel_rfl) (fun _ _ _ _ h => h) (v_extract rfl rfl) rfl rfl ?_
                      refine m_take 9 false rfl rfl (by kernel_rfl) (by kernel_rfl) (by kernel_rfl) (fun _ _ _ _ h => h) (v_extract rfl rfl) rfl rfl ?_
                      refine m_one 10 (by kernel_rfl) rfl rfl ?_
                      refine sm_alloc (av := (.agg [(.int .i64 0), (.int .i64 0), (.int .i64 0), (.int .i64 0), (.int .i64 0), (.bool false), .nil0])) ty28 rfl rfl rfl rfl ?_
                      refine m_one 11 (by kernel_rfl) rfl rfl ?_
                      refine sm_any rfl (s_store_all ty28 rfl rfl rfl rfl rfl rfl ?_)
                      refine m_take 12 false rfl rfl (by kernel_rfl) (by kernel_rfl) (by kernel_rfl) (fun _ _ _ _ h => h) (v_assign rfl) rfl rfl ?_
                      refine m_done (by kernel_rfl) ?_
                      first | refine g_keep [8, 10] [7, 9] [7, 9] (keep_cons rfl (keep_cons rfl keep_nil)) (lkeep_cons rfl (lkeep_cons rfl lkeep_nil)) (keep_cons rfl (keep_cons rfl keep_nil)) rfl ?_ | refine g_keep [8, 10] [7, 9] [7, 9] rfl rfl rfl rfl ?_
                      exact g_has ⟨rfl, rfl, rfl, ⟨AHeap.sub_trans hHG hown42.sub, hsr⟩⟩
                    · refine ⟨_, rfl, .inl ⟨rfl, ?_⟩⟩
                      refine sm_alloc (av := (.agg [(.int .i64 0), (.int .i64 0), (.int .i64 0), (.int .i64 0), (.int .i64 0), (.bool false), .nil0])) ty28 rfl rfl rfl rfl ?_
                      refine m_one 6 (by kernel_rfl) rfl rfl ?_
                      refine sm_callp rfl rfl rfl (path_ok r (b ++ a) _ hsr (by simp; omega) _ hown42.view) ?_
                      rintro _ rfl
                      refine m_take 7 false rfl rfl (by kernel_rfl) (by kernel_rfl) (by kernel_rfl) (fun _ _ _ _ h => h) (v_move rfl) rfl rfl ?_
                      refine m_take 8 false rfl rfl (by kernel_rfl) (by kernel_rfl) (by kernel_rfl) (fun _ _ _ _ h => h) (v_extract rfl rfl) rfl rfl ?_
                      refine m_take 9 false rfl rfl (by kernel_rfl) (by kernel_rfl) (by kernel_rfl) (fun _ _ _ _ h => h) (v_extract rfl rfl) rfl rfl ?_
                      refine m_one 11 (by kernel_rfl) rfl rfl ?_
                      refine sm_any rfl (s_store_all ty28 rfl rfl rfl rfl rfl rfl ?_)
                      refine m_take 12 false rfl rfl (by kernel_rfl) (by kernel_rfl) (by kernel_rfl) (fun _ _ _ _ h => h) (v_assign rfl) rfl rfl ?_
                      refine m_done (by kernel_rfl) ?_
                      first | refine g_keep [8, 10] [7, 9] [7, 9] (keep_cons rfl (keep_cons rfl keep_nil)) (lkeep_cons rfl (lkeep_cons rfl lkeep_nil)) (keep_cons rfl (keep_cons rfl keep_nil)) rfl ?_ | refine g_keep [8, 10] [7, 9] [7, 9] rfl rfl rfl rfl ?_
                      exact g_has ⟨rfl, rfl, rfl, ⟨AHeap.sub_trans hHG hown42.sub, hsr⟩⟩
                  · refine ⟨_, rfl, .inl ⟨rfl, ?_⟩⟩
                    refine sm_alloc (av := (.agg [(.int .i64 0), (.int .i64 0), (.int .i64 0), (.int .i64 0), (.int .i64 0), (.bool false), .nil0])) ty28 rfl rfl rfl rfl ?_
                    refine m_one 5 (by kernel_rfl) rfl rfl ?_
                    refine sm_any rfl (s_append (l := (b.map (.int .i64))) (m := (a.map (.int .i64))) ty41 ty3 rfl rfl hown40 rfl rfl (by refine Even.map _ ?_ _; intro _; rfl) (by intro x hx; obtain ⟨_, _, rfl⟩ := List.mem_map.1 hx; rfl) rfl (by simp; omega) (by simp; omega) ?_)
                    intro av42 G42 hown42
                    rw [← List.map_append] at hown42
                    refine m_one 6 (by kernel_rfl) rfl rfl ?_
                    refine sm_callp rfl rfl rfl (path_ok r (b ++ a) _ hsr (by simp; omega) _ hown42.view) ?_
                    rintro _ rfl
                    refine m_take 7 false rfl rfl (by kernel_rfl) (by kernel_rfl) (by kernel_rfl) (fun _ _ _ _ h => h) (v_move rfl) rfl rfl ?_
                    refine m_take 8 false rfl rfl (by kernel_rfl) (by kernel_rfl) (by kernel_rfl) (fun _ _ _ _ h => h) (v_extract rfl rfl) rfl rfl ?_
                    refine m_take 9 false rfl rfl (by kernel_rfl) (by kernel_rfl) (by kernel_rfl) (fun _ _ _ _ h => h) (v_extract rfl rfl) rfl rfl ?_
                    refine m_one 11 (by kernel_rfl) rfl rfl ?_
                    refine sm_any rfl (s_store_all ty28 rfl rfl rfl rfl rfl rfl ?_)
                    refine m_take 12 false rfl rfl (by kernel_rfl) (by kernel_rfl) (by kernel_rfl) (fun _ _ _ _ h => h) (v_assign rfl) rfl rfl ?_
                    refine m_done (by kernel_rfl) ?_
                    first | refine g_keep [8, 10] [7, 9] [7, 9] (keep_cons rfl (keep_cons rfl keep_nil)) (lkeep_cons rfl (lkeep_cons rfl lkeep_nil)) (keep_cons rfl (keep_cons rfl keep_nil)) rfl ?_ | refine g_keep [8, 10] [7, 9] [7, 9] rfl rfl rfl rfl ?_
                    exact g_has ⟨rfl, rfl, rfl, ⟨AHeap.sub_trans hHG hown42.sub, hsr⟩⟩
                · refine ⟨_, rfl, .inl ⟨rfl, ?_⟩⟩
                  refine sm_alloc (av := (.agg [(.int .i64 0), (.int .i64 0), (.int .i64 0), (.int .i64 0), (.int .i64 0), (.bool false), .nil0])) ty28 rfl rfl rfl rfl ?_
                  refine m_one 3 (by kernel_rfl) rfl rfl ?_
                  refine sm_any rfl (s_append (l := []) (m := (b.map (.int .i64))) ty41 ty3 rfl rfl (Own.nil ..) rfl rfl (by refine Even.map _ ?_ _; intro _; rfl) (by intro x hx; obtain ⟨_, _, rfl⟩ := List.mem_map.1 hx; rfl) rfl (by simp; omega) (by simp; omega) ?_)
                  intro av40 G40 hown40
                  rw [List.nil_append] at hown40
                  refine m_one 5 (by kernel_rfl) rfl rfl ?_
                  refine sm_any rfl (s_append (l := (b.map (.int .i64))) (m := (a.map (.int .i64))) ty41 ty3 rfl rfl hown40 rfl rfl (by refine Even.map _ ?_ _; intro _; rfl) (by intro x hx; obtain ⟨_, _, rfl⟩ := List.mem_map.1 hx; rfl) rfl (by simp; omega) (by simp; omega) ?_)
                  intro av42 G42 hown42
                  rw [← List.map_append] at hown42
                  refine m_one 6 (by kernel_rfl) rfl rfl ?_
                  refine sm_callp rfl rfl rfl (path_ok r (b ++ a) _ hsr (by simp; omega) _ hown42.view) ?_
                  rintro _ rfl
                  refine m_take 7 false rfl rfl (by kernel_rfl) (by kernel_rfl) (by kernel_rfl) (fun _ _ _ _ h => h) (v_move rfl) rfl rfl ?_
                  refine m_take 8 false rfl rfl (by kernel_rfl) (by kernel_rfl) (by kernel_rfl) (fun _ _ _ _ h => h) (v_extract rfl rfl) rfl rfl ?_
                  refine m_take 9 false rfl rfl (by kernel_rfl) (by kernel_rfl) (by kernel_rfl) (fun _ _ _ _ h => h) (v_extract rfl rfl) rfl rfl ?_
                  refine m_one 11 (by kernel_rfl) rfl rfl ?_
                  refine sm_any rfl (s_store_all ty28 rfl rfl rfl rfl rfl rfl ?_)
                  refine m_take 12 false rfl rfl (by kernel_rfl) (by kernel_rfl) (by kernel_rfl) (fun _ _ _ _ h => h) (v_assign rfl) rfl rfl ?_
                  refine m_done (by kernel_rfl) ?_
                  first | refine g_keep [8, 10] [7, 9] [7, 9] (keep_cons rfl (keep_cons rfl keep_nil)) (lkeep_cons rfl (lkeep_cons rfl lkeep_nil)) (keep_cons rfl (keep_cons rfl keep_nil)) rfl ?_ | refine g_keep [8, 10] [7, 9] [7, 9] rfl rfl rfl rfl ?_
                  exact g_has ⟨rfl, rfl, rfl, ⟨AHeap.sub_trans hHG hown42.sub, hsr⟩⟩
              · refine ⟨_, rfl, .inl ⟨rfl, ?_⟩⟩
                refine sm_alloc (av := (.agg [(.int .i64 0), (.int .i64 0), (.int .i64 0), (.int .i64 0), (.int .i64 0), (.bool false), .nil0])) ty28 rfl rfl rfl rfl ?_
                refine m_one 1 (by kernel_rfl) rfl rfl ?_
                refine sm_lit0 ty41 ty3 rfl ?_
                refine m_one 3 (by kernel_rfl) rfl rfl ?_
                refine sm_any rfl (s_append (l := []) (m := (b.map (.int .i64))) ty41 ty3 rfl rfl (Own.nil ..) rfl rfl (by refine Even.map _ ?_ _; intro _; rfl) (by intro x hx; obtain ⟨_, _, rfl⟩ := List.mem_map.1 hx; rfl) rfl (by simp; omega) (by simp; omega) ?_)
                intro av40 G40 hown40
                rw [List.nil_append] at hown40
                refine m_one 5 (by kernel_rfl) rfl rfl ?_
                refine sm_any rfl (s_append (l := (b.map (.int .i64))) (m := (a.map (.int .i64))) ty41 ty3 rfl rfl hown40 rfl rfl (by refine Even.map _ ?_ _; intro _; rfl) (by intro x hx; obtain ⟨_, _, rfl⟩ := List.mem_map.1 hx; rfl) rfl (by simp; omega) (by simp; omega) ?_)
                intro av42 G42 hown42
                rw [← List.map_append] at hown42
                refine m_one 6 (by kernel_rfl) rfl rfl ?_
                refine sm_callp rfl rfl rfl (path_ok r (b ++ a) _ hsr (by simp; omega) _ hown42.view) ?_
                rintro _ rfl
                refine m_take 7 false rfl rfl (by kernel_rfl) (by kernel_rfl) (by kernel_rfl) (fun _ _ _ _ h => h) (v_move rfl) rfl rfl ?_
                refine m_take 8 false rfl rfl (by kernel_rfl) (by kernel_rfl) (by kernel_rfl) (fun _ _ _ _ h => h) (v_extract rfl rfl) rfl rfl ?_
                refine m_take 9 false rfl rfl (by kernel_rfl) (by kernel_rfl) (by kernel_rfl) (fun _ _ _ _ h => h) (v_extract rfl rfl) rfl rfl ?_
                refine m_one 11 (by kernel_rfl) rfl rfl ?_
                refine sm_any rfl (s_store_all ty28 rfl rfl rfl rfl rfl rfl ?_)
                refine m_take 12 false rfl rfl (by kernel_rfl) (by kernel_rfl) (by kernel_rfl) (fun _ _ _ _ h => h) (v_assign rfl) rfl rfl ?_
                refine m_done (by kernel_rfl) ?_
                first | refine g_keep [8, 10] [7, 9] [7, 9] (keep_cons rfl (keep_cons rfl keep_nil)) (lkeep_cons rfl (lkeep_cons rfl lkeep_nil)) (keep_cons rfl (keep_cons rfl keep_nil)) rfl ?_ | refine g_keep [8, 10] [7, 9] [7, 9] rfl rfl rfl rfl ?_
                exact g_has ⟨rfl, rfl, rfl, ⟨AHeap.sub_trans hHG hown42.sub, hsr⟩⟩
            · refine ⟨_, rfl, .inl ⟨rfl, ?_⟩⟩
              refine sm_lit0 ty41 ty3 rfl ?_
              refine m_all (is := [0, 3, 10]) (by kernel_rfl) rfl (fun _ _ _ => trivial) (fun i hi => ?_)
              rcases (by simpa using hi : i = 0 ∨ i = 3 ∨ i = 10) with rfl | rfl | rfl
              · refine ⟨_, rfl, .inl ⟨rfl, ?_⟩⟩
                refine sm_val (by first | exact v_loadl_all ty28 rfl rfl rfl rfl rfl | exact v_loadl_part (cs := [_, _, _, _, _, _, _]) ty28 rfl rfl rfl rfl rfl rfl) rfl rfl ?_
                refine m_all (is := [3, 10]) (by kernel_rfl) rfl (fun _ _ _ => trivial) (fun i hi => ?_)
                rcases (by simpa using hi : i = 3 ∨ i = 10) with rfl | rfl
                · refine ⟨_, rfl, .inl ⟨rfl, ?_⟩⟩
                  refine sm_any rfl (s_append (l := []) (m := (b.map (.int .i64))) ty41 ty3 rfl rfl (Own.nil ..) rfl rfl (by refine Even.map _ ?_ _; intro _; rfl) (by intro x hx; obtain ⟨_, _, rfl⟩ := List.mem_map.1 hx; rfl) rfl (by simp; omega) (by simp; omega) ?_)
                  intro av40 G40 hown40
                  rw [List.nil_append] at hown40
                  refine m_all (is := [5, 10]) (by kernel_rfl) rfl (fun _ _ _ => trivial) (fun i hi => ?_)
                  rcases (by simpa using hi : i = 5 ∨ i = 10) with rfl | rfl
                  · refine ⟨_, rfl, .inl ⟨rfl, ?_⟩⟩
                    refine sm_any rfl (s_append (l := (b.map (.int .i64))) (m := (a.map (.int .i64))) ty41 ty3 rfl rfl hown40 rfl rfl (by refine Even.map _ ?_ _; intro _; rfl) (by intro x hx; obtain ⟨_, _, rfl⟩ := List.mem_map.1 hx; rfl) rfl (by simp; omega) (by simp; omega) ?_)
                    intro av42 G42 hown42
                    rw [← List.map_append] at hown42
                    refine m_all (is := [6, 10]) (by kernel_rfl) rfl (fun _ _ _ => trivial) (fun i hi => ?_)
                    rcases (by simpa using hi : i = 6 ∨ i = 10) with rfl | rfl
                    · refine ⟨_, rfl, .inl ⟨rfl, ?_⟩⟩
                      refine sm_callp rfl rfl rfl (path_ok r (b ++ a) _ hsr (by simp; omega) _ hown42.view) ?_
                      rintro _ rfl
                      refine m_take 7 false rfl rfl (by kernel_rfl) (by kernel_rfl) (by kernel_rfl) (fun _ _ _ _ h => h) (v_move rfl) rfl rfl ?_
                      refine m_take 8 false rfl rfl (by kernel_rfl) (by kernel_rfl) (by kernel_rfl) (fun _ _ _ _ h => h) (v_extract rfl rfl) rfl rfl ?_
                      refine m_take 9 false rfl rfl (by kernel_rfl) (by kernel_rfl) (by kernel_rfl) (fun _ _ _ _ h => h) (v_extract rfl rfl) rfl rfl ?_
                      refine m_one 10 (by kernel_rfl) rfl rfl ?_
                      refine sm_alloc (av := (.agg [(.int .i64 0), (.int .i64 0), (.int .i64 0), (.int .i64 0), (.int .i64 0), (.bool false), .nil0])) ty28 rfl rfl rfl rfl ?_
                      refine m_one 11 (by kernel_rfl) rfl rfl ?_
                      refine sm_any rfl (s_store_all ty28 rfl rfl rfl rfl rfl rfl ?_)
                      refine m_take 12 false rfl rfl (by kernel_rfl) (by kernel_rfl) (by kernel_rfl) (fun _ _ _ _ h => h) (v_assign rfl) rfl rfl ?_
                      refine m_done (by kernel_rfl) ?_
                      first | refine g_keep [8, 10] [7, 9] [7, 9] (keep_cons rfl (keep_cons rfl keep_nil)) (lkeep_cons rfl (lkeep_cons rfl lkeep_nil)) (keep_cons rfl (keep_cons rfl keep_nil)) rfl ?_ | refine g_keep [8, 10] [7, 9] [7, 9] rfl rfl rfl rfl ?_
                      exact g_has ⟨rfl, rfl, rfl, ⟨AHeap.sub_trans hHG hown42.sub, hsr⟩⟩
                    · refine ⟨_, rfl, .inl ⟨rfl, ?_⟩⟩
                      refine sm_alloc (av := (.agg [(.int .i64 0), (.int .i64 0), (.int .i64 0), (.int .i64 0), (.int .i64 0), (.bool false), .nil0])) ty28 rfl rfl rfl rfl ?_
                      refine m_one 6 (by kernel_rfl) rfl rfl ?_
                      refine sm_callp rfl rfl rfl (path_ok r (b ++ a) _ hsr (by simp; omega) _ hown42.view) ?_
                      rintro _ rfl
                      refine m_take 7 false rfl rfl (by kernel_rfl) (by kernel_rfl) (by kernel_rfl) (fun _ _ _ _ h => h) (v_move rfl) rfl rfl ?_
                      refine m_take 8 false rfl rfl (by kernel_rfl) (by kernel_rfl) (by kernel_rfl) (fun _ _ _ _ h => h) (v_extract rfl rfl) rfl rfl ?_
                      refine m_take 9 false rfl rfl (by kernel_rfl) (by kernel_rfl) (by kernel_rfl) (fun _ _ _ _ h => h) (v_extract rfl rfl) rfl rfl ?_
                      refine m_one 11 (by kernel_rfl) rfl rfl ?_
                      refine sm_any rfl (s_store_all ty28 rfl rfl rfl rfl rfl rfl ?_)
                      refine m_take 12 false rfl rfl (by kernel_rfl) (by kernel_rfl) (by kernel_rfl) (fun _ _ _ _ h => h) (v_assign rfl) rfl rfl ?_
                      refine m_done (by kernel_rfl) ?_
                      first | refine g_keep [8, 10] [7, 9] [7, 9] (keep_cons rfl (keep_cons rfl keep_nil)) (lkeep_cons rfl (lkeep_cons rfl lkeep_nil)) (keep_cons rfl (keep_cons rfl keep_nil)) rfl ?_ | refine g_keep [8, 10] [7, 9] [7, 9] rfl rfl rfl rfl ?_
                      exact g_has ⟨rfl, rfl, rfl, ⟨AHeap.sub_trans hHG hown42.sub, hsr⟩⟩
                  · refine ⟨_, rfl, .inl ⟨rfl, ?_⟩⟩
                    refine sm_alloc (av := (.agg [(.int .i64 0), (.int .i64 0), (.int .i64 0), (.int .i64 0), (.int .i64 0), (.bool false), .nil0])) ty28 rfl rfl rfl rfl ?_
                    refine m_one 5 (by kernel_rfl) rfl rfl ?_
                    refine sm_any rfl (s_append (l := (b.map (.int .i64))) (m := (a.map (.int .i64))) ty41 ty3 rfl rfl hown40 rfl rfl (by refine Even.map _ ?_ _; intro _; rfl) (by intro x hx; obtain ⟨_, _, rfl⟩ := List.mem_map.1 hx; rfl) rfl (by simp; omega) (by simp; omega) ?_)
                    intro av42 G42 hown42
                    rw [← List.map_append] at hown42
                    refine m_one 6 (by kernel_rfl) rfl rfl ?_
                    refine sm_callp rfl rfl rfl (path_ok r (b ++ a) _ hsr (by simp; omega) _ hown42.view) ?_
                    rintro _ rfl
                    refine m_take 7 false rfl rfl (by kernel_rfl) (by kernel_rfl) (by kernel_rfl) (fun _ _ _ _ h => h) (v_move rfl) rfl rfl ?_
                    refine m_take 8 false rfl rfl (by kernel_rfl) (by kernel_rfl) (by kernel_rfl) (fun _ _ _ _ h => h) (v_extract rfl rfl) rfl rfl ?_
                    refine m_take 9 false rfl rfl (by kernel_rfl) (by kernel_rfl) (by kernel_rfl) (fun _ _ _ _ h => h) (v_extract rfl rfl) rfl rfl ?_
                    refine m_one 11 (by kernel_rfl) rfl rfl ?_
                    refine sm_any rfl (s_store_all ty28 rfl rfl rfl rfl rfl rfl ?_)
                    refine m_take 12 false rfl rfl (by kernel_rfl) (by kernel_rfl) (by kernel_rfl) (fun _ _ _ _ h => h) (v_assign rfl) rfl rfl ?_
                    refine m_done (by kernel_rfl) ?_
                    first | refine g_keep [8, 10] [7, 9] [7, 9] (keep_cons rfl (keep_cons rfl keep_nil)) (lkeep_cons rfl (lkeep_cons rfl lkeep_nil)) (keep_cons rfl (keep_cons rfl keep_nil)) rfl ?_ | refine g_keep [8, 10] [7, 9] [7, 9] rfl rfl rfl rfl ?_
                    exact g_has ⟨rfl, rfl, rfl, ⟨AHeap.sub_trans hHG hown42.sub, hsr⟩⟩
                · refine ⟨_, rfl, .inl ⟨rfl, ?_⟩⟩
                  refine sm_alloc (av := (.agg [(.int .i64 0), (.int .i64 0), (.int .i64 0), (.int .i64 0), (.int .i64 0), (.bool false), .nil0])) ty28 rfl rfl rfl rfl ?_
                  refine m_one 3 (by kernel_rfl) rfl rfl ?_
                  refine sm_any rfl (s_append (l := []) (m := (b.map (.int .i64))) ty41 ty3 rfl rfl (Own.nil ..) rfl rfl (by refine Even.map _ ?_ _; intro _; rfl) (by intro x hx; obtain ⟨_, _, rfl⟩ := List.mem_map.1 hx; rfl) rfl (by simp; omega) (by simp; omega) ?_)
                  intro av40 G40 hown40
                  rw [List.nil_append] at hown40
                  refine m_one 5 (by kernel_rfl) rfl rfl ?_
                  refine sm_any rfl (s_append (l := (b.map (.int .i64))) (m := (a.map (.int .i64))) ty41 ty3 rfl rfl hown40 rfl rfl (by refine Even.map _ ?_ _; intro _; rfl) (by intro x hx; obtain ⟨_, _, rfl⟩ := List.mem_map.1 hx; rfl) rfl (by simp; omega) (by simp; omega) ?_)
                  intro av42 G42 hown42
                  rw [← List.map_append] at hown42
                  refine m_one 6 (by kernel_rfl) rfl rfl ?_
                  refine sm_callp rfl rfl rfl (path_ok r (b ++ a) _ hsr (by simp; omega) _ hown42.view) ?_
                  rintro _ rfl
                  refine m_take 7 false rfl rfl (by kernel_rfl) (by kernel_rfl) (by kernel_rfl) (fun _ _ _ _ h => h) (v_move rfl) rfl rfl ?_
                  refine m_take 8 false rfl rfl (by kernel_rfl) (by kernel_rfl) (by kernel_rfl) (fun _ _ _ _ h => h) (v_extract rfl rfl) rfl rfl ?_
                  refine m_take 9 false rfl rfl (by kernel_rfl) (by kernel_rfl) (by kernel_rfl) (fun _ _ _ _ h => h) (v_extract rfl rfl) rfl rfl ?_
                  refine m_one 11 (by kernel_rfl) rfl rfl ?_
                  refine sm_any rfl (s_store_all ty28 rfl rfl rfl rfl rfl rfl ?_)
                  refine m_take 12 false rfl rfl (by kernel_rfl) (by kernel_rfl) (by kernel_rfl) (fun _ _ _ _ h => h) (v_assign rfl) rfl rfl ?_
                  refine m_done (by kernel_rfl) ?_
                  first | refine g_keep [8, 10] [7, 9] [7, 9] (keep_cons rfl (keep_cons rfl keep_nil)) (lkeep_cons rfl (lkeep_cons rfl lkeep_nil)) (keep_cons rfl (keep_cons rfl keep_nil)) rfl ?_ | refine g_keep [8, 10] [7, 9] [7, 9] rfl rfl rfl rfl ?_
                  exact g_has ⟨rfl, rfl, rfl, ⟨AHeap.sub_trans hHG hown42.sub, hsr⟩⟩
              · refine ⟨_, rfl, .inl ⟨rfl, ?_⟩⟩
                refine sm_any rfl (s_append (l := []) (m := (b.map (.int .i64))) ty41 ty3 rfl rfl (Own.nil ..) rfl rfl (by refine Even.map _ ?_ _; intro _; rfl) (by intro x hx; obtain ⟨_, _, rfl⟩ := List.mem_map.1 hx; rfl) rfl (by simp; omega) (by simp; omega) ?_)
                intro av40 G40 hown40
                rw [List.nil_append] at hown40
                refine m_all (is := [0, 5, 10]) (by kernel_rfl) rfl (fun _ _ _ => trivial) (fun i hi => ?_)
                rcases (by simpa using hi : i = 0 ∨ i = 5 ∨ i = 10) with rfl | rfl | rfl
                · refine ⟨_, rfl, .inl ⟨rfl, ?_⟩⟩
                  refine sm_val (by first | exact v_loadl_all ty28 rfl rfl rfl rfl rfl | exact v_loadl_part (cs := [_, _, _, _, _, _, _]) ty28 rfl rfl rfl rfl rfl rfl) rfl rfl ?_
                  refine m_all (is := [5, 10]) (by kernel_rfl) rfl (fun _ _ _ => trivial) (fun i hi => ?_)
                  rcases (by simpa using hi : i = 5 ∨ i = 10) with rfl | rfl
                  · refine ⟨_, rfl, .inl ⟨rfl, ?_⟩⟩
                    refine sm_any rfl (s_append (l := (b.map (.int .i64))) (m := (a.map (.int .i64))) ty41 ty3 rfl rfl hown40 rfl rfl (by refine Even.map _ ?_ _; intro _; rfl) (by intro x hx; obtain ⟨_, _, rfl⟩ := List.mem_map.1 hx; rfl) rfl (by simp; omega) (by simp; omega) ?_)
                    intro av42 G42 hown42
                    rw [← List.map_append] at hown42
                    refine m_all (is := [6, 10]) (by kernel_rfl) rfl (fun _ _ _ => trivial) (fun i hi => ?_)
                    rcases (by simpa using hi : i = 6 ∨ i = 10) with rfl | rfl
                    · refine ⟨_, rfl, .inl ⟨rfl, ?_⟩⟩
                      refine sm_callp rfl rfl rfl (path_ok r (b ++ a) _ hsr (by simp; omega) _ hown42.view) ?_
                      rintro _ rfl
                      refine m_take 7 false rfl rfl (by kernel_rfl) (by kernel_rfl) (by kernel_rfl) (fun _ _ _ _ h => h) (v_move rfl) rfl rfl ?_
                      refine m_take 8 false rfl rfl (by kernel_rfl) (by kernel_rfl) (by kernel_rfl) (fun _ _ _ _ h => h) (v_extract rfl rfl) rfl rfl ?_
                      refine m_take 9 false rfl rfl (by kernel_rfl) (by kernel_rfl) (by kernel_rfl) (fun _ _ _ _ h => h) (v_extract rfl rfl) rfl rfl ?_
                      refine m_one 10 (by kernel_rfl) rfl rfl ?_
                      refine sm_alloc (av := (.agg [(.int .i64 0), (.int .i64 0), (.int .i64 0), (.int .i64 0), (.int .i64 0), (.bool false), .nil0])) ty28 rfl rfl rfl rfl ?_
                      refine m_one 11 (by kernel_rfl) rfl rfl ?_
                      refine sm_any rfl (s_store_all ty28 rfl rfl rfl rfl rfl rfl ?_)
                      refine m_take 12 false rfl rfl (by kernel_rfl) (by kernel_rfl) (by kernel_rfl) (fun _ _ _ _ h => h) (v_assign rfl) rfl rfl ?_
                      refine m_done (by kernel_rfl) ?_
                      first | refine g_keep [8, 10] [7, 9] [7, 9] (keep_cons rfl (keep_cons rfl keep_nil)) (lkeep_cons rfl (lkeep_cons rfl lkeep_nil)) (keep_cons rfl (keep_cons rfl keep_nil)) rfl ?_ | refine g_keep [8, 10] [7, 9] [7, 9] rfl rfl rfl rfl ?_
                      exact g_has ⟨rfl, rfl, rfl, ⟨AHeap.sub_trans hHG hown42.sub, hsr⟩⟩
                    · refine ⟨_, rfl, .inl ⟨rfl, ?_⟩⟩
                      refine sm_alloc (av := (.agg [(.int .i64 0), (.int .i64 0), (.int .i64 0), (.int .i64 0), (.int .i64 0), (.bool false), .nil0])) ty28 rfl rfl rfl rfl ?_
                      refine m_one 6 (by kernel_rfl) rfl rfl ?_
                      refine sm_callp rfl rfl rfl (path_ok r (b ++ a) _ hsr (by simp; omega) _ hown42.view) ?_
                      rintro _ rfl
                      refine m_take 7 false rfl rfl (by kernel_rfl) (by kernel_rfl) (by kernel_rfl) (fun _ _ _ _ h => h) (v_move rfl) rfl rfl ?_
                      refine m_take 8 false rfl rfl (by kernel_rfl) (by kernel_rfl) (by kernel_rfl) (fun _ _ _ _ h => h) (v_extract rfl rfl) rfl rfl ?_
                      refine m_take 9 false rfl rfl (by kernel_rfl) (by kernel_rfl) (by kernel_rfl) (fun _ _ _ _ h => h) (v_extract rfl rfl) rfl rfl ?_
                      refine m_one 11 (by kernel_rfl) rfl rfl ?_
                      refine sm_any rfl (s_store_all ty28 rfl rfl rfl rfl rfl rfl ?_)
                      refine m_take 12 false rfl rfl (by kernel_rfl) (by kernel_rfl) (by kernel_rfl) (fun _ _ _ _ h => h) (v_assign rfl) rfl rfl ?_
                      refine m_done (by kernel_rfl) ?_
                      first | refine g_keep [8, 10] [7, 9] [7, 9] (keep_cons rfl (keep_cons rfl keep_nil)) (lkeep_cons rfl (lkeep_cons rfl lkeep_nil)) (keep_cons rfl (keep_cons rfl keep_nil)) rfl ?_ | refine g_keep [8, 10] [7, 9] [7, 9] rfl rfl rfl rfl ?_
                      exact g_has ⟨rfl, rfl, rfl, ⟨AHeap.sub_trans hHG hown42.sub, hsr⟩⟩
                  · refine ⟨_, rfl, .inl ⟨rfl, ?_⟩⟩
                    refine sm_alloc (av := (.agg [(.int .i64 0), (.int .i64 0), (.int .i64 0), (.int .i64 0), (.int .i64 0), (.bool false), .nil0])) ty28 rfl rfl rfl rfl ?_
                    refine m_one 5 (by kernel_rfl) rfl rfl ?_
                    refine sm_any rfl (s_append (l := (b.map (.int .i64))) (m := (a.map (.int .i64))) ty41 ty3 rfl rfl hown40 rfl rfl (by refine Even.map _ ?_ _; intro _; rfl) (by intro x hx; obtain ⟨_, _, rfl⟩ := List.mem_map.1 hx; rfl) rfl (by simp; omega) (by simp; omega) ?_)
                    intro av42 G42 hown42
                    rw [← List.map_append] at hown42
                    refine m_one 6 (by kernel_rfl) rfl rfl ?_
                    refine sm_callp rfl rfl rfl (path_ok r (b ++ a) _ hsr (by simp; omega) _ hown42.view) ?_
                    rintro _ rfl
                    refine m_take 7 false rfl rfl (by kernel_rfl) (by kernel_rfl) (by kernel_rfl) (fun _ _ _ _ h => h) (v_move rfl) rfl rfl ?_
                    refine m_take 8 false rfl rfl (by kernel_rfl) (by kernel_rfl) (by kernel_rfl) (fun _ _ _ _ h => h) (v_extract rfl rfl) rfl rfl ?_
                    refine m_take 9 false rfl rfl (by kernel_rfl) (by kernel_rfl) (by kernel_rfl) (fun _ _ _ _ h => h) (v_extract rfl rfl) rfl rfl ?_
                    refine m_one 11 (by kernel_rfl) rfl rfl ?_
                    refine sm_any rfl (s_store_all ty28 rfl rfl rfl rfl rfl rfl ?_)
                    refine m_take 12 false rfl rfl (by kernel_rfl) (by kernel_rfl) (by kernel_rfl) (fun _ _ _ _ h => h) (v_assign rfl) rfl rfl ?_
                    refine m_done (by kernel_rfl) ?_
                    first | refine g_keep [8, 10] [7, 9] [7, 9] (keep_cons rfl (keep_cons rfl keep_nil)) (lkeep_cons rfl (lkeep_cons rfl lkeep_nil)) (keep_cons rfl (keep_cons rfl keep_nil)) rfl ?_ | refine g_keep [8, 10] [7, 9] [7, 9] rfl rfl rfl rfl ?_
                    exact g_has ⟨rfl, rfl, rfl, ⟨AHeap.sub_trans hHG hown42.sub, hsr⟩⟩
                · refine ⟨_, rfl, .inl ⟨rfl, ?_⟩⟩
                  refine sm_any rfl (s_append (l := (b.map (.int .i64))) (m := (a.map (.int .i64))) ty41 ty3 rfl rfl hown40 rfl rfl (by refine Even.map _ ?_ _; intro _; rfl) (by intro x hx; obtain ⟨_, _, rfl⟩ := List.mem_map.1 hx; rfl) rfl (by simp; omega) (by simp; omega) ?_)
                  intro av42 G42 hown42
                  rw [← List.map_append] at hown42
                  refine m_take 0 true rfl rfl (by kernel_rfl) (by kernel_rfl) (by kernel_rfl) (fun _ _ _ _ h => h) (by first | exact v_loadl_all ty28 rfl rfl rfl rfl rfl | exact v_loadl_part (cs := [_, _, _, _, _, _, _]) ty28 rfl rfl rfl rfl rfl rfl) rfl rfl ?_
                  refine m_all (is := [6, 10]) (by kernel_rfl) rfl (fun _ _ _ => trivial) (fun i hi => ?_)
                  rcases (by simpa using hi : i = 6 ∨ i = 10) with rfl | rfl
                  · refine ⟨_, rfl, .inl ⟨rfl, ?_⟩⟩
                    refine sm_callp rfl rfl rfl (path_ok r (b ++ a) _ hsr (by simp; omega) _ hown42.view) ?_
                    rintro _ rfl
                    refine m_take 7 false rfl rfl (by kernel_rfl) (by kernel_rfl) (by kernel_rfl) (fun _ _ _ _ h => h) (v_move rfl) rfl rfl ?_
                    refine m_take 8 false rfl rfl (by kernel_rfl) (by kernel_rfl) (by kernel_rfl) (fun _ _ _ _ h => h) (v_extract rfl rfl) rfl rfl ?_
                    refine m_take 9 false rfl rfl (by kernel_rfl) (by kernel_rfl) (by kernel_rfl) (fun _ _ _ _ h => h) (v_extract rfl rfl) rfl rfl ?_
                    refine m_one 10 (by kernel_rfl) rfl rfl ?_
                    refine sm_alloc (av := (.agg [(.int .i64 0), (.int .i64 0), (.int .i64 0), (.int .i64 0), (.int .i64 0), (.bool false), .nil0])) ty28 rfl rfl rfl rfl ?_
                    refine m_one 11 (by kernel_rfl) rfl rfl ?_
                    refine sm_any rfl (s_store_all ty28 rfl rfl rfl rfl rfl rfl ?_)
                    refine m_take 12 false rfl rfl (by kernel_rfl) (by kernel_rfl) (by kernel_rfl) (fun _ _ _ _ h => h) (v_assign rfl) rfl rfl ?_
                    refine m_done (by kernel_rfl) ?_
                    first | refine g_keep [8, 10] [7, 9] [7, 9] (keep_cons rfl (keep_cons rfl keep_nil)) (lkeep_cons rfl (lkeep_cons rfl lkeep_nil)) (keep_cons rfl (keep_cons rfl keep_nil)) rfl ?_ | refine g_keep [8, 10] [7, 9] [7, 9] rfl rfl rfl rfl ?_
                    exact g_has ⟨rfl, rfl, rfl, ⟨AHeap.sub_trans hHG hown42.sub, hsr⟩⟩
                  · refine ⟨_, rfl, .inl ⟨rfl, ?_⟩⟩
                    refine sm_alloc (av := (.agg [(.int .i64 0), (.int .i64 0), (.int .i64 0), (.int .i64 0), (.int .i64 0), (.bool false), .nil0])) ty28 rfl rfl rfl rfl ?_
                    refine m_one 6 (by kernel_rfl) rfl rfl ?_
                    refine sm_callp rfl rfl rfl (path_ok r (b ++ a) _ hsr (by simp; omega) _ hown42.view) ?_
                    rintro _ rfl
                    refine m_take 7 false rfl rfl (by kernel_rfl) (by kernel_rfl) (by kernel_rfl) (fun _ _ _ _ h => h) (v_move rfl) rfl rfl ?_
                    refine m_take 8 false rfl rfl (by kernel_rfl) (by kernel_rfl) (by kernel_rfl) (fun _ _ _ _ h => h) (v_extract rfl rfl) rfl rfl ?_
                    refine m_take 9 false rfl rfl (by kernel_rfl) (by kernel_rfl) (by kernel_rfl) (fun _ _ _ _ h => h) (v_extract rfl rfl) rfl rfl ?_
                    refine m_one 11 (by kernel_rfl) rfl rfl ?_
                    refine sm_any rfl (s_store_all ty28 rfl rfl rfl rfl rfl rfl ?_)
                    refine m_take 12 false rfl rfl (by kernel_rfl) (by kernel_rfl) (by kernel_rfl) (fun _ _ _ _ h => h) (v_assign rfl) rfl rfl ?_
                    refine m_done (by kernel_rfl) ?_
                    first | refine g_keep [8, 10] [7, 9] [7, 9] (keep_cons rfl (keep_cons rfl keep_nil)) (lkeep_cons rfl (lkeep_cons rfl lkeep_nil)) (keep_cons rfl (keep_cons rfl keep_nil)) rfl ?_ | refine g_keep [8, 10] [7, 9] [7, 9] rfl rfl rfl rfl ?_
                    exact g_has ⟨rfl, rfl, rfl, ⟨AHeap.sub_trans hHG hown42.sub, hsr⟩⟩
                · refine ⟨_, rfl, .inl ⟨rfl, ?_⟩⟩
                  refine sm_alloc (av := (.agg [(.int .i64 0), (.int .i64 0), (.int .i64 0), (.int .i64 0), (.int .i64 0), (.bool false), .nil0])) ty28 rfl rfl rfl rfl ?_
                  refine m_all (is := [0, 5]) (by kernel_rfl) rfl (fun _ _ _ => trivial) (fun i hi => ?_)
                  rcases (by simpa using hi : i = 0 ∨ i = 5) with rfl | rfl
                  · refine ⟨_, rfl, .inl ⟨rfl, ?_⟩⟩
                    refine sm_val (by first | exact v_loadl_all ty28 rfl rfl rfl rfl rfl | exact v_loadl_part (cs := [_, _, _, _, _, _, _]) ty28 rfl rfl rfl rfl rfl rfl) rfl rfl ?_
                    refine m_one 5 (by kernel_rfl) rfl rfl ?_
                    refine sm_any rfl (s_append (l := (b.map (.int .i64))) (m := (a.map (.int .i64))) ty41 ty3 rfl rfl hown40 rfl rfl (by refine Even.map _ ?_ _; intro _; rfl) (by intro x hx; obtain ⟨_, _, rfl⟩ := List.mem_map.1 hx; rfl) rfl (by simp; omega) (by simp; omega) ?_)
                    intro av42 G42 hown42
                    rw [← List.map_append] at hown42
                    refine m_one 6 (by kernel_rfl) rfl rfl ?_
                    refine sm_callp rfl rfl rfl (path_ok r (b ++ a) _ hsr (by simp; omega) _ hown42.view) ?_
                    rintro _ rfl
                    refine m_take 7 false rfl rfl (by kernel_rfl) (by kernel_rfl) (by kernel_rfl) (fun _ _ _ _ h => h) (v_move rfl) rfl rfl ?_
                    refine m_take 8 false rfl rfl (by kernel_rfl) (by kernel_rfl) (by kernel_rfl) (fun _ _ _ _ h => h) (v_extract rfl rfl) rfl rfl ?_
                    refine m_take 9 false rfl rfl (by kernel_rfl) (by kernel_rfl) (by kernel_rfl) (fun _ _ _ _ h => h) (v_extract rfl rfl) rfl rfl ?_
                    refine m_one 11 (by kernel_rfl) rfl rfl ?_
                    refine sm_any rfl (s_store_all ty28 rfl rfl rfl rfl rfl rfl ?_)
                    refine m_take 12 false rfl rfl (by kernel_rfl) (by kernel_rfl) (by kernel_rfl) (fun _ _ _ _ h => h) (v_assign rfl) rfl rfl ?_
                    refine m_done (by kernel_rfl) ?_
                    first | refine g_keep [8, 10] [7, 9] [7, 9] (keep_cons rfl (keep_cons rfl keep_nil)) (lkeep_cons rfl (lkeep_cons rfl lkeep_nil)) (keep_cons rfl (keep_cons rfl keep_nil)) rfl ?_ | refine g_keep [8, 10] [7, 9] [7, 9] rfl rfl rfl rfl ?_
                    exact g_has ⟨rfl, rfl, rfl, ⟨AHeap.sub_trans hHG hown42.sub, hsr⟩⟩
                  · refine ⟨_, rfl, .inl ⟨rfl, ?_⟩⟩
                    refine sm_any rfl (s_append (l := (b.map (.int .i64))) (m := (a.map (.int .i64))) ty41 ty3 rfl rfl hown40 rfl rfl (by refine Even.map _ ?_ _; intro _; rfl) (by intro x hx; obtain ⟨_, _, rfl⟩ := List.mem_map.1 hx; rfl) rfl (by simp; omega) (by simp; omega) ?_)
                    intro av42 G42 hown42
                    rw [← List.map_append] at hown42
                    refine m_take 0 true rfl rfl (by kernel_rfl) (by kernel_rfl) (by kernel_rfl) (fun _ _ _ _ h => h) (by first | exact v_loadl_all ty28 rfl rfl rfl rfl rfl | exact v_loadl_part (cs := [_, _, _, _, _, _, _]) ty28 rfl rfl rfl rfl rfl rfl) rfl rfl ?_
                    refine m_one 6 (by kernel_rfl) rfl rfl ?_
                    refine sm_callp rfl rfl rfl (path_ok r (b ++ a) _ hsr (by simp; omega) _ hown42.view) ?_
                    rintro _ rfl
                    refine m_take 7 false rfl rfl (by kernel_rfl) (by kernel_rfl) (by kernel_rfl) (fun _ _ _ _ h => h) (v_move rfl) rfl rfl ?_
                    refine m_take 8 false rfl rfl (by kernel_rfl) (by kernel_rfl) (by kernel_rfl) (fun _ _ _ _ h => h) (v_extract rfl rfl) rfl rfl ?_
                    refine m_take 9 false rfl rfl (by kernel_rfl) (by kernel_rfl) (by kernel_rfl) (fun _ _ _ _ h => h) (v_extract rfl rfl) rfl rfl ?_
                    refine m_one 11 (by kernel_rfl) rfl rfl ?_
                    refine sm_any rfl (s_store_all ty28 rfl rfl rfl rfl rfl rfl ?_)
                    refine m_take 12 false rfl rfl (by kernel_rfl) (by kernel_rfl) (by kernel_rfl) (fun _ _ _ _ h => h) (v_assign rfl) rfl rfl ?_
                    refine m_done (by kernel_rfl) ?_
                    first | refine g_keep [8, 10] [7, 9] [7, 9] (keep_cons rfl (keep_cons rfl keep_nil)) (lkeep_cons rfl (lkeep_cons rfl lkeep_nil)) (keep_cons rfl (keep_cons rfl keep_nil)) rfl ?_ | refine g_keep [8, 10] [7, 9] [7, 9] rfl rfl rfl rfl ?_
                    exact g_has ⟨rfl, rfl, rfl, ⟨AHeap.sub_trans hHG hown42.sub, hsr⟩⟩
              · refine ⟨_, rfl, .inl ⟨rfl, ?_⟩⟩
                refine sm_alloc (av := (.agg [(.int .i64 0), (.int .i64 0), (.int .i64 0), (.int .i64 0), (.int .i64 0), (.bool false), .nil0])) ty28 rfl rfl rfl rfl ?_
                refine m_all (is := [0, 3]) (by kernel_rfl) rfl (fun _ _ _ => trivial) (fun i hi => ?_)
                rcases (by simpa using hi : i = 0 ∨ i = 3) with rfl | rfl
                · refine ⟨_, rfl, .inl ⟨rfl, ?_⟩⟩
                  refine sm_val (by first | exact v_loadl_all ty28 rfl rfl rfl rfl rfl | exact v_loadl_part (cs := [_, _, _, _, _, _, _]) ty28 rfl rfl rfl rfl rfl rfl) rfl rfl ?_
                  refine m_one 3 (by kernel_rfl) rfl rfl ?_
                  refine sm_any rfl (s_append (l := []) (m := (b.map (.int .i64))) ty41 ty3 rfl rfl (Own.nil ..) rfl rfl (by refine Even.map _ ?_ _; intro _; rfl) (by intro x hx; obtain ⟨_, _, rfl⟩ := List.mem_map.1 hx; rfl) rfl (by simp; omega) (by simp; omega) ?_)
                  intro av40 G40 hown40
                  rw [List.nil_append] at hown40
                  refine m_one 5 (by kernel_rfl) rfl rfl ?_
                  refine sm_any rfl (s_append (l := (b.map (.int .i64))) (m := (a.map (.int .i64))) ty41 ty3 rfl rfl hown40 rfl rfl (by refine Even.map _ ?_ _; intro _; rfl) (by intro x hx; obtain ⟨_, _, rfl⟩ := List.mem_map.1 hx; rfl) rfl (by simp; omega) (by simp; omega) ?_)
                  intro av42 G42 hown42
                  rw [← List.map_append] at hown42
                  refine m_one 6 (by kernel_rfl) rfl rfl ?_
                  refine sm_callp rfl rfl rfl (path_ok r (b ++ a) _ hsr (by simp; omega) _ hown42.view) ?_
                  rintro _ rfl
                  refine m_take 7 false rfl rfl (by kernel_rfl) (by kernel_rfl) (by kernel_rfl) (fun _ _ _ _ h => h) (v_move rfl) rfl rfl ?_
                  refine m_take 8 false rfl rfl (by kernel_rfl) (by kernel_rfl) (by kernel_rfl) (fun _ _ _ _ h => h) (v_extract rfl rfl) rfl rfl ?_
                  refine m_take 9 false rfl rfl (by kernel_rfl) (by kernel_rfl) (by kernel_rfl) (fun _ _ _ _ h => h) (v_extract rfl rfl) rfl rfl ?_
                  refine m_one 11 (by kernel_rfl) rfl rfl ?_
                  refine sm_any rfl (s_store_all ty28 rfl rfl rfl rfl rfl rfl ?_)
                  refine m_take 12 false rfl rfl (by kernel_rfl) (by kernel_rfl) (by kernel_rfl) (fun _ _ _ _ h => h) (v_assign rfl) rfl rfl ?_
                  refine m_done (by kernel_rfl) ?_
                  first | refine g_keep [8, 10] [7, 9] [7, 9] (keep_cons rfl (keep_cons rfl keep_nil)) (lkeep_cons rfl (lkeep_cons rfl lkeep_nil)) (keep_cons rfl (keep_cons rfl keep_nil)) rfl ?_ | refine g_keep [8, 10] [7, 9] [7, 9] rfl rfl rfl rfl ?_
                  exact g_has ⟨rfl, rfl, rfl, ⟨AHeap.sub_trans hHG hown42.sub, hsr⟩⟩
                · refine ⟨_, rfl, .inl ⟨rfl, ?_⟩⟩
                  refine sm_any rfl (s_append (l := []) (m := (b.map (.int .i64))) ty41 ty3 rfl rfl (Own.nil ..) rfl rfl (by refine Even.map _ ?_ _; intro _; rfl) (by intro x hx; obtain ⟨_, _, rfl⟩ := List.mem_map.1 hx; rfl) rfl (by simp; omega) (by simp; omega) ?_)
                  intro av40 G40 hown40
                  rw [List.nil_append] at hown40
                  refine m_all (is := [0, 5]) (by kernel_rfl) rfl (fun _ _ _ => trivial) (fun i hi => ?_)
                  rcases (by simpa using hi : i = 0 ∨ i = 5) with rfl | rfl
                  · refine ⟨_, rfl, .inl ⟨rfl, ?_⟩⟩
                    refine sm_val (by first | exact v_loadl_all ty28 rfl rfl rfl rfl rfl | exact v_loadl_part (cs := [_, _, _, _, _, _, _]) ty28 rfl rfl rfl rfl rfl rfl) rfl rfl ?_
                    refine m_one 5 (by kernel_rfl) rfl rfl ?_
                    refine sm_any rfl (s_append (l := (b.map (.int .i64))) (m := (a.map (.int .i64))) ty41 ty3 rfl rfl hown40 rfl rfl (by refine Even.map _ ?_ _; intro _; rfl) (by intro x hx; obtain ⟨_, _, rfl⟩ := List.mem_map.1 hx; rfl) rfl (by simp; omega) (by simp; omega) ?_)
                    intro av42 G42 hown42
                    rw [← List.map_append] at hown42
                    refine m_one 6 (by kernel_rfl) rfl rfl ?_
                    refine sm_callp rfl rfl rfl (path_ok r (b ++ a) _ hsr (by simp; omega) _ hown42.view) ?_
                    rintro _ rfl
                    refine m_take 7 false rfl rfl (by kernel_rfl) (by kernel_rfl) (by kernel_rfl) (fun _ _ _ _ h => h) (v_move rfl) rfl rfl ?_
                    refine m_take 8 false rfl rfl (by kernel_rfl) (by kernel_rfl) (by kernel_rfl) (fun _ _ _ _ h => h) (v_extract rfl rfl) rfl rfl ?_
                    refine m_take 9 false rfl rfl (by kernel_rfl) (by kernel_rfl) (by kernel_rfl) (fun _ _ _ _ h => h) (v_extract rfl rfl) rfl rfl ?_
                    refine m_one 11 (by kernel_rfl) rfl rfl ?_
                    refine sm_any rfl (s_store_all ty28 rfl rfl rfl rfl rfl rfl ?_)
                    refine m_take 12 false rfl rfl (by kernel_rfl) (by kernel_rfl) (by kernel_rfl) (fun _ _ _ _ h => h) (v_assign rfl) rfl rfl ?_
                    refine m_done (by kernel_rfl) ?_
                    first | refine g_keep [8, 10] [7, 9] [7, 9] (keep_cons rfl (keep_cons rfl keep_nil)) (lkeep_cons rfl (lkeep_cons rfl lkeep_nil)) (keep_cons rfl (keep_cons rfl keep_nil)) rfl ?_ | refine g_keep [8, 10] [7, 9] [7, 9] rfl rfl rfl rfl ?_
                    exact g_has ⟨rfl, rfl, rfl, ⟨AHeap.sub_trans hHG hown42.sub, hsr⟩⟩
                  · refine ⟨_, rfl, .inl ⟨rfl, ?_⟩⟩
                    refine sm_any rfl (s_append (l := (b.map (.int .i64))) (m := (a.map (.int .i64))) ty41 ty3 rfl rfl hown40 rfl rfl (by refine Even.map _ ?_ _; intro _; rfl) (by intro x hx; obtain ⟨_, _, rfl⟩ := List.mem_map.1 hx; rfl) rfl (by simp; omega) (by simp; omega) ?_)
                    intro av42 G42 hown42
                    rw [← List.map_append] at hown42
                    refine m_take 0 true rfl rfl (by kernel_rfl) (by kernel_rfl) (by kernel_rfl) (fun _ _ _ _ h => h) (by first | exact v_loadl_all ty28 rfl rfl rfl rfl rfl | exact v_loadl_part (cs := [_, _, _, _, _, _, _]) ty28 rfl rfl rfl rfl rfl rfl) rfl rfl ?_
                    refine m_one 6 (by kernel_rfl) rfl rfl ?_
                    refine sm_callp rfl rfl rfl (path_ok r (b ++ a) _ hsr (by simp; omega) _ hown42.view) ?_
                    rintro _ rfl
                    refine m_take 7 false rfl rfl (by kernel_rfl) (by kernel_rfl) (by kernel_rfl) (fun _ _ _ _ h => h) (v_move rfl) rfl rfl ?_
                    refine m_take 8 false rfl rfl (by kernel_rfl) (by kernel_rfl) (by kernel_rfl) (fun _ _ _ _ h => h) (v_extract rfl rfl) rfl rfl ?_
                    refine m_take 9 false rfl rfl (by kernel_rfl) (by kernel_rfl) (by kernel_rfl) (fun _ _ _ _ h => h) (v_extract rfl rfl) rfl rfl ?_
                    refine m_one 11 (by kernel_rfl) rfl rfl ?_
                    refine sm_any rfl (s_store_all ty28 rfl rfl rfl rfl rfl rfl ?_)
                    refine m_take 12 false rfl rfl (by kernel_rfl) (by kernel_rfl) (by kernel_rfl) (fun _ _ _ _ h => h) (v_assign rfl) rfl rfl ?_
                    refine m_done (by kernel_rfl) ?_
                    first | refine g_keep [8, 10] [7, 9] [7, 9] (keep_cons rfl (keep_cons rfl keep_nil)) (lkeep_cons rfl (lkeep_cons rfl lkeep_nil)) (keep_cons rfl (keep_cons rfl keep_nil)) rfl ?_ | refine g_keep [8, 10] [7, 9] [7, 9] rfl rfl rfl rfl ?_
                    exact g_has ⟨rfl, rfl, rfl, ⟨AHeap.sub_trans hHG hown42.sub, hsr⟩⟩
            · refine ⟨_, rfl, .inl ⟨rfl, ?_⟩⟩
              refine sm_alloc (av := (.agg [(.int .i64 0), (.int .i64 0), (.int .i64 0), (.int .i64 0), (.int .i64 0), (.bool false), .nil0])) ty28 rfl rfl rfl rfl ?_
              refine m_all (is := [0, 1]) (by kernel_rfl) rfl (fun _ _ _ => trivial) (fun i hi => ?_)
              rcases (by simpa using hi : i = 0 ∨ i = 1) with rfl | rfl
              · refine ⟨_, rfl, .inl ⟨rfl, ?_⟩⟩
                refine sm_val (by first | exact v_loadl_all ty28 rfl rfl rfl rfl rfl | exact v_loadl_part (cs := [_, _, _, _, _, _, _]) ty28 rfl rfl rfl rfl rfl rfl) rfl rfl ?_
                refine m_one 1 (by kernel_rfl) rfl rfl ?_
                refine sm_lit0 ty41 ty3 rfl ?_
                refine m_one 3 (by kernel_rfl) rfl rfl ?_
                refine sm_any rfl (s_append (l := []) (m := (b.map (.int .i64))) ty41 ty3 rfl rfl (Own.nil ..) rfl rfl (by refine Even.map _ ?_ _; intro _; rfl) (by intro x hx; obtain ⟨_, _, rfl⟩ := List.mem_map.1 hx; rfl) rfl (by simp; omega) (by simp; omega) ?_)
                intro av40 G40 hown40
                rw [List.nil_append] at hown40
                refine m_one 5 (by kernel_rfl) rfl rfl ?_
                refine sm_any rfl (s_append (l := (b.map (.int .i64))) (m := (a.map (.int .i64))) ty41 ty3 rfl rfl hown40 rfl rfl (by refine Even.map _ ?_ _; intro _; rfl) (by intro x hx; obtain ⟨_, _, rfl⟩ := List.mem_map.1 hx; rfl) rfl (by simp; omega) (by simp; omega) ?_)
                intro av42 G42 hown42
                rw [← List.map_append] at hown42
                refine m_one 6 (by kernel_rfl) rfl rfl ?_
                refine sm_callp rfl rfl rfl (path_ok r (b ++ a) _ hsr (by simp; omega) _ hown42.view) ?_
                rintro _ rfl
                refine m_take 7 false rfl rfl (by kernel_rfl) (by kernel_rfl) (by kernel_rfl) (fun _ _ _ _ h => h) (v_move rfl) rfl rfl ?_
                refine m_take 8 false rfl rfl (by kernel_rfl) (by kernel_rfl) (by kernel_rfl) (fun _ _ _ _ h => h) (v_extract rfl rfl) rfl rfl ?_
                refine m_take 9 false rfl rfl (by kernel_rfl) (by kernel_rfl) (by kernel_rfl) (fun _ _ _ _ h => h) (v_extract rfl rfl) rfl rfl ?_
                refine m_one 11 (by kernel_rfl) rfl rfl ?_
                refine sm_any rfl (s_store_all ty28 rfl rfl rfl rfl rfl rfl ?_)
                refine m_take 12 false rfl rfl (by kernel_rfl) (by kernel_rfl) (by kernel_rfl) (fun _ _ _ _ h => h) (v_assign rfl) rfl rfl ?_
                refine m_done (by kernel_rfl) ?_
                first | refine g_keep [8, 10] [7, 9] [7, 9] (keep_cons rfl (keep_cons rfl keep_nil)) (lkeep_cons rfl (lkeep_cons rfl lkeep_nil)) (keep_cons rfl (keep_cons rfl keep_nil)) rfl ?_ | refine g_keep [8, 10] [7, 9] [7, 9] rfl rfl rfl rfl ?_
                exact g_has ⟨rfl, rfl, rfl, ⟨AHeap.sub_trans hHG hown42.sub, hsr⟩⟩
              · refine ⟨_, rfl, .inl ⟨rfl, ?_⟩⟩
                refine sm_lit0 ty41 ty3 rfl ?_
                refine m_all (is := [0, 3]) (by kernel_rfl) rfl (fun _ _ _ => trivial) (fun i hi => ?_)
                rcases (by simpa using hi : i = 0 ∨ i = 3) with rfl | rfl
                · refine ⟨_, rfl, .inl ⟨rfl, ?_⟩⟩
                  refine sm_val (by first | exact v_loadl_all ty28 rfl rfl rfl rfl rfl | exact v_loadl_part (cs := [_, _, _, _, _, _, _]) ty28 rfl rfl rfl rfl rfl rfl) rfl rfl ?_
                  refine m_one 3 (by kernel_rfl) rfl rfl ?_
                  refine sm_any rfl (s_append (l := []) (m := (b.map (.int .i64))) ty41 ty3 rfl rfl (Own.nil ..) rfl rfl (by refine Even.map _ ?_ _; intro _; rfl) (by intro x hx; obtain ⟨_, _, rfl⟩ := List.mem_map.1 hx; rfl) rfl (by simp; omega) (by simp; omega) ?_)
                  intro av40 G40 hown40
                  rw [List.nil_append] at hown40
                  refine m_one 5 (by kernel_rfl) rfl rfl ?_
                  refine sm_any rfl (s_append (l := (b.map (.int .i64))) (m := (a.map (.int .i64))) ty41 ty3 rfl rfl hown40 rfl rfl (by refine Even.map _ ?_ _; intro _; rfl) (by intro x hx; obtain ⟨_, _, rfl⟩ := List.mem_map.1 hx; rfl) rfl (by simp; omega) (by simp; omega) ?_)
                  intro av42 G42 hown42
                  rw [← List.map_append] at hown42
                  refine m_one 6 (by kernel_rfl) rfl rfl ?_
                  refine sm_callp rfl rfl rfl (path_ok r (b ++ a) _ hsr (by simp; omega) _ hown42.view) ?_
                  rintro _ rfl
                  refine m_take 7 false rfl rfl (by kernel_rfl) (by kernel_rfl) (by kernel_rfl) (fun _ _ _ _ h => h) (v_move rfl) rfl rfl ?_
                  refine m_take 8 false rfl rfl (by kernel_rfl) (by kernel_rfl) (by kernel_rfl) (fun _ _ _ _ h => h) (v_extract rfl rfl) rfl rfl ?_
                  refine m_take 9 false rfl rfl (by kernel_rfl) (by kernel_rfl) (by kernel_rfl) (fun _ _ _ _ h => h) (v_extract rfl rfl) rfl rfl ?_
                  refine m_one 11 (by kernel_rfl) rfl rfl ?_
                  refine sm_any rfl (s_store_all ty28 rfl rfl rfl rfl rfl rfl ?_)
                  refine m_take 12 false rfl rfl (by kernel_rfl) (by kernel_rfl) (by kernel_rfl) (fun _ _ _ _ h => h) (v_assign rfl) rfl rfl ?_
                  refine m_done (by kernel_rfl) ?_
                  first | refine g_keep [8, 10] [7, 9] [7, 9] (keep_cons rfl (keep_cons rfl keep_nil)) (lkeep_cons rfl (lkeep_cons rfl lkeep_nil)) (keep_cons rfl (keep_cons rfl keep_nil)) rfl ?_ | refine g_keep [8, 10] [7, 9] [7, 9] rfl rfl rfl rfl ?_
                  exact g_has ⟨rfl, rfl, rfl, ⟨AHeap.sub_trans hHG hown42.sub, hsr⟩⟩
                · refine ⟨_, rfl, .inl ⟨rfl, ?_⟩⟩
                  refine sm_any rfl (s_append (l := []) (m := (b.map (.int .i64))) ty41 ty3 rfl rfl (Own.nil ..) rfl rfl (by refine Even.map _ ?_ _; intro _; rfl) (by intro x hx; obtain ⟨_, _, rfl⟩ := List.mem_map.1 hx; rfl) rfl (by simp; omega) (by simp; omega) ?_)
                  intro av40 G40 hown40
                  rw [List.nil_append] at hown40
                  refine m_all (is := [0, 5]) (by kernel_rfl) rfl (fun _ _ _ => trivial) (fun i hi => ?_)
                  rcases (by simpa using hi : i = 0 ∨ i = 5) with rfl | rfl
                  · refine ⟨_, rfl, .inl ⟨rfl, ?_⟩⟩
                    refine sm_val (by first | exact v_loadl_all ty28 rfl rfl rfl rfl rfl | exact v_loadl_part (cs := [_, _, _, _, _, _, _]) ty28 rfl rfl rfl rfl rfl rfl) rfl rfl ?_
                    refine m_one 5 (by kernel_rfl) rfl rfl ?_
                    refine sm_any rfl (s_append (l := (b.map (.int .i64))) (m := (a.map (.int .i64))) ty41 ty3 rfl rfl hown40 rfl rfl (by refine Even.map _ ?_ _; intro _; rfl) (by intro x hx; obtain ⟨_, _, rfl⟩ := List.mem_map.1 hx; rfl) rfl (by simp; omega) (by simp; omega) ?_)
                    intro av42 G42 hown42
                    rw [← List.map_append] at hown42
                    refine m_one 6 (by kernel_rfl) rfl rfl ?_
                    refine sm_callp rfl rfl rfl (path_ok r (b ++ a) _ hsr (by simp; omega) _ hown42.view) ?_
                    rintro _ rfl
                    refine m_take 7 false rfl rfl (by kernel_rfl) (by kernel_rfl) (by kernel_rfl) (fun _ _ _ _ h => h) (v_move rfl) rfl rfl ?_
                    refine m_take 8 false rfl rfl (by kernel_rfl) (by kernel_rfl) (by kernel_rfl) (fun _ _ _ _ h => h) (v_extract rfl rfl) rfl rfl ?_
                    refine m_take 9 false rfl rfl (by kernel_rfl) (by kernel_rfl) (by kernel_rfl) (fun _ _ _ _ h => h) (v_extract rfl rfl) rfl rfl ?_
                    refine m_one 11 (by kernel_rfl) rfl rfl ?_
                    refine sm_any rfl (s_store_all ty28 rfl rfl rfl rfl rfl rfl ?_)
                    refine m_take 12 false rfl rfl (by kernel_rfl) (by kernel_rfl) (by kernel_rfl) (fun _ _ _ _ h => h) (v_assign rfl) rfl rfl ?_
                    refine m_done (by kernel_rfl) ?_
                    first | refine g_keep [8, 10] [7, 9] [7, 9] (keep_cons rfl (keep_cons rfl keep_nil)) (lkeep_cons rfl (lkeep_cons rfl lkeep_nil)) (keep_cons rfl (keep_cons rfl keep_nil)) rfl ?_ | refine g_keep [8, 10] [7, 9] [7, 9] rfl rfl rfl rfl ?_
                    exact g_has ⟨rfl, rfl, rfl, ⟨AHeap.sub_trans hHG hown42.sub, hsr⟩⟩
                  · refine ⟨_, rfl, .inl ⟨rfl, ?_⟩⟩
                    refine sm_any rfl (s_append (l := (b.map (.int .i64))) (m := (a.map (.int .i64))) ty41 ty3 rfl rfl hown40 rfl rfl (by refine Even.map _ ?_ _; intro _; rfl) (by intro x hx; obtain ⟨_, _, rfl⟩ := List.mem_map.1 hx; rfl) rfl (by simp; omega) (by simp; omega) ?_)
                    intro av42 G42 hown42
                    rw [← List.map_append] at hown42
                    refine m_take 0 true rfl rfl (by kernel_rfl) (by kernel_rfl) (by kernel_rfl) (fun _ _ _ _ h => h) (by first | exact v_loadl_all ty28 rfl rfl rfl rfl rfl | exact v_loadl_part (cs := [_, _, _, _, _, _, _]) ty28 rfl rfl rfl rfl rfl rfl) rfl rfl ?_
                    refine m_one 6 (by kernel_rfl) rfl rfl ?_
                    refine sm_callp rfl rfl rfl (path_ok r (b ++ a) _ hsr (by simp; omega) _ hown42.view) ?_
                    rintro _ rfl
                    refine m_take 7 false rfl rfl (by kernel_rfl) (by kernel_rfl) (by kernel_rfl) (fun _ _ _ _ h => h) (v_move rfl) rfl rfl ?_
                    refine m_take 8 false rfl rfl (by kernel_rfl) (by kernel_rfl) (by kernel_rfl) (fun _ _ _ _ h => h) (v_extract rfl rfl) rfl rfl ?_
                    refine m_take 9 false rfl rfl (by kernel_rfl) (by kernel_rfl) (by kernel_rfl) (fun _ _ _ _ h => h) (v_extract rfl rfl) rfl rfl ?_
                    refine m_one 11 (by kernel_rfl) rfl rfl ?_
                    refine sm_any rfl (s_store_all ty28 rfl rfl rfl rfl rfl rfl ?_)
                    refine m_take 12 false rfl rfl (by kernel_rfl) (by kernel_rfl) (by kernel_rfl) (fun _ _ _ _ h => h) (v_assign rfl) rfl rfl ?_
                    refine m_done (by kernel_rfl) ?_
                    first | refine g_keep [8, 10] [7, 9] [7, 9] (keep_cons rfl (keep_cons rfl keep_nil)) (lkeep_cons rfl (lkeep_cons rfl lkeep_nil)) (keep_cons rfl (keep_cons rfl keep_nil)) rfl ?_ | refine g_keep [8, 10] [7, 9] [7, 9] rfl rfl rfl rfl ?_
                    exact g_has ⟨rfl, rfl, rfl, ⟨AHeap.sub_trans hHG hown42.sub, hsr⟩⟩
          · skip
            obtain ⟨rfl, rfl, rfl, hHG, hsr⟩ := hI
            have hcm := cpath_comm a b r
            refine g_seq (fun K6 hK6 => ?_)
            refine g_region ?_
            refine g_step rfl (s_val (v_move rfl) rfl rfl ?_)
            refine g_step rfl (s_val (v_move rfl) rfl rfl ?_)
            refine g_step rfl (s_val (v_bool_eql ty4 rfl rfl) rfl rfl ?_)
            refine g_step rfl (s_val (v_move rfl) rfl rfl ?_)
            refine g_split 49 rfl (fun hg49 => ?_) (fun hg49 => ?_)
            · try simp only [decide_eq_true_eq, decide_eq_false_iff_not, Bool.not_eq_true', Bool.not_eq_false', Bool.not_eq_eq_eq_not, Bool.not_true, Bool.not_false, Bool.and_eq_true, Bool.or_eq_true, Bool.or_eq_false_iff, beq_iff_eq, beq_eq_false_iff_ne, ne_eq, Int.not_lt, Int.not_le, Decidable.not_not] at hg49
              refine g_step_yes (j := 3) (t := 49) rfl rfl rfl rfl (s_val (by first | exact v_loadl_all ty28 rfl rfl rfl rfl rfl | exact v_loadl_part (cs := [_, _, _, _, _, _, _]) ty28 rfl rfl rfl rfl rfl rfl) rfl rfl ?_)
              refine g_step_yes (j := 3) (t := 49) rfl rfl rfl rfl (s_val (by first | exact v_loadl_all ty28 rfl rfl rfl rfl rfl | exact v_loadl_part (cs := [_, _, _, _, _, _, _]) ty28 rfl rfl rfl rfl rfl rfl) rfl rfl ?_)
              refine g_step_yes (j := 3) (t := 49) rfl rfl rfl rfl (s_callp rfl rfl rfl (alike_ok (cpath r (a ++ b)).1 (cpath r (b ++ a)).1 _ (cpath_small hsr)) ?_)
              rintro _ rfl
              refine g_step rfl (s_val (v_pick_t rfl rfl) rfl rfl ?_)
              refine g_step rfl (s_val (v_move rfl) rfl rfl ?_)
              refine g_split 54 rfl (fun hg54 => ?_) (fun hg54 => ?_)
              · try simp only [decide_eq_true_eq, decide_eq_false_iff_not, Bool.not_eq_true', Bool.not_eq_false', Bool.not_eq_eq_eq_not, Bool.not_true, Bool.not_false, Bool.and_eq_true, Bool.or_eq_true, Bool.or_eq_false_iff, beq_iff_eq, beq_eq_false_iff_ne, ne_eq, Int.not_lt, Int.not_le, Decidable.not_not] at hg54
                refine g_step_yes (j := 8) (t := 54) rfl rfl rfl rfl (s_callp rfl rfl rfl (awake18_ok _) ?_)
                rintro _ rfl
                refine g_step rfl (s_val (v_pick_t rfl rfl) rfl rfl ?_)
                refine g_step rfl (s_val (v_assign rfl) rfl rfl ?_)
                refine g_nil ?_
                refine g_next hK6 ?_
                refine g_ret ?_
                refine g_end1 (.inl rfl) Try.results6 (.tmp rfl) [] (ASub.refl _) (by first | exact AHeap.sub_refl _ | exact hHG) (fun p hp => by cases hp) ⟨rfl, ?_⟩
                rfl
              · exfalso; (try simp only [decide_eq_true_eq, decide_eq_false_iff_not, Bool.not_eq_true', Bool.not_eq_false', Bool.not_eq_eq_eq_not, Bool.not_true, Bool.not_false, Bool.and_eq_true, Bool.or_eq_true, Bool.or_eq_false_iff, beq_iff_eq, beq_eq_false_iff_ne, ne_eq, Int.not_lt, Int.not_le, Decidable.not_not] at hg54); simp [hcm] at hg54
            · exfalso; (try simp only [decide_eq_true_eq, decide_eq_false_iff_not, Bool.not_eq_true', Bool.not_eq_false', Bool.not_eq_eq_eq_not, Bool.not_true, Bool.not_false, Bool.and_eq_true, Bool.or_eq_true, Bool.or_eq_false_iff, beq_iff_eq, beq_eq_false_iff_ne, ne_eq, Int.not_lt, Int.not_le, Decidable.not_not] at hg49); simp [hcm] at hg49

end Go.Proofs.Ytnkcofpkmnohkaa

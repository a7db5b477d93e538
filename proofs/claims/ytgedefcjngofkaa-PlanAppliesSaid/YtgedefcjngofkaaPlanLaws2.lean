import Derived.Test.YtgedefcjngofkaaPlanLaws
import Derived.Test.YtgedefcjngofkaaPPlan3
set_option maxHeartbeats 8000000
set_option linter.unusedSimpArgs false
set_option linter.unusedVariables false
set_option maxRecDepth 100000
namespace Go.Proofs.Ytgedefcjngofkaa
open Go Go.Proofs.Ytgedefcjngofkaa.AM
theorem planApplies_ok (l : List Rc) (ms : List Mv) (hlm : ms.length ≤ 140737488351232) (hh : ∀ r ∈ l, Held r.bag) (hlen : l.length ≤ 140737488351232) (G : AHeap) : PCalls Try.prog 5 [encRs l, .imm (ms.map encMv)] G (fun v => v = .bool true) := by
  refine LCalls.intro 67 fi5 rfl Try.ntmps5 rfl (fun _ h => h.elim) (fun H hH w0 hw0 => ?_)
  refine g_seq (fun K0 hK0 => ?_)
  refine g_region ?_
  refine g_step rfl (s_val (v_assign rfl) rfl rfl ?_)
  refine g_nil ?_
  refine g_next hK0 ?_
  refine g_seq (fun K1 hK1 => ?_)
  refine g_seq (fun K2 hK2 => ?_)
  refine g_region ?_
  refine g_step rfl (s_val (v_move rfl) rfl rfl ?_)
  refine g_step rfl (s_callp rfl rfl rfl (fewL_ok l _ _ rfl hh hlen) ?_)
  rintro _ rfl
  refine g_step rfl (s_val (v_not rfl) rfl rfl ?_)
  refine g_step rfl (s_val (v_move rfl) rfl rfl ?_)
  refine g_split 12 rfl (fun hg12 => ?_) (fun hg12 => ?_)
  · try simp only [decide_eq_true_eq, decide_eq_false_iff_not, Bool.not_eq_true', Bool.not_eq_false', Bool.not_eq_eq_eq_not, Bool.not_true, Bool.not_false, Bool.and_eq_true, Bool.or_eq_true, Bool.or_eq_false_iff, beq_iff_eq, beq_eq_false_iff_ne, ne_eq, Int.not_lt, Int.not_le, Decidable.not_not] at hg12
    refine g_step_no (j := 3) (t := 12) rfl rfl rfl rfl rfl rfl rfl ?_
    refine g_step_no (j := 3) (t := 12) rfl rfl rfl rfl rfl rfl rfl ?_
    refine g_step_no (j := 3) (t := 12) rfl rfl rfl rfl rfl rfl rfl ?_
    refine g_step rfl (s_val (v_pick_t rfl rfl) rfl rfl ?_)
    refine g_nil ?_
    refine g_next hK2 ?_
    refine g_cond rfl (fun _ => ?_) (fun h => by cases h)
    refine g_seq (fun K3 hK3 => ?_)
    refine g_region ?_
    refine g_step rfl (s_callp rfl rfl rfl (awake32_ok _) ?_)
    rintro _ rfl
    refine g_step rfl (s_val (v_assign rfl) rfl rfl ?_)
    refine g_nil ?_
    refine g_next hK3 ?_
    refine g_ret ?_
    refine g_then_ret ?_
    refine g_end1 (.inl rfl) Try.results5 (.tmp rfl) [] (ASub.refl _) (AHeap.sub_refl _) (fun p hp => by cases hp) ⟨rfl, ?_⟩
    rfl
  · try simp only [decide_eq_true_eq, decide_eq_false_iff_not, Bool.not_eq_true', Bool.not_eq_false', Bool.not_eq_eq_eq_not, Bool.not_true, Bool.not_false, Bool.and_eq_true, Bool.or_eq_true, Bool.or_eq_false_iff, beq_iff_eq, beq_eq_false_iff_ne, ne_eq, Int.not_lt, Int.not_le, Decidable.not_not] at hg12
    refine g_step_yes (j := 3) (t := 12) rfl rfl rfl rfl (s_val (v_move rfl) rfl rfl ?_)
    refine g_step_yes (j := 3) (t := 12) rfl rfl rfl rfl (s_val (v_len ty35 rfl (by first | rfl | assumption) (by first | exact List.length_map .. | rfl)) rfl rfl ?_)
    refine g_step_yes (j := 3) (t := 12) rfl rfl rfl rfl (s_val (v_gtr rfl rfl) rfl rfl ?_)
    refine g_step rfl (s_val (v_pick_f rfl rfl) rfl rfl ?_)
    refine g_nil ?_
    refine g_next hK2 ?_
    refine g_cond rfl (fun hc16 => ?_) (fun hc16 => ?_)
    · try simp only [decide_eq_true_eq, decide_eq_false_iff_not, Bool.not_eq_true', Bool.not_eq_false', Bool.not_eq_eq_eq_not, Bool.not_true, Bool.not_false, Bool.and_eq_true, Bool.or_eq_true, Bool.or_eq_false_iff, beq_iff_eq, beq_eq_false_iff_ne, ne_eq, Int.not_lt, Int.not_le, Decidable.not_not] at hc16
      refine g_seq (fun K4 hK4 => ?_)
      refine g_region ?_
      refine g_step rfl (s_callp rfl rfl rfl (awake32_ok _) ?_)
      rintro _ rfl
      refine g_step rfl (s_val (v_assign rfl) rfl rfl ?_)
      refine g_nil ?_
      refine g_next hK4 ?_
      refine g_ret ?_
      refine g_then_ret ?_
      refine g_end1 (.inl rfl) Try.results5 (.tmp rfl) [] (ASub.refl _) (AHeap.sub_refl _) (fun p hp => by cases hp) ⟨rfl, ?_⟩
      rfl
    · try simp only [decide_eq_true_eq, decide_eq_false_iff_not, Bool.not_eq_true', Bool.not_eq_false', Bool.not_eq_eq_eq_not, Bool.not_true, Bool.not_false, Bool.and_eq_true, Bool.or_eq_true, Bool.or_eq_false_iff, beq_iff_eq, beq_eq_false_iff_ne, ne_eq, Int.not_lt, Int.not_le, Decidable.not_not] at hc16
      obtain ⟨hl20, hsl⟩ := fewL_small (l := l) (by first | assumption | simp_all)
      refine g_skip ?_
      refine g_next hK1 ?_
      refine g_seq (fun K5 hK5 => ?_)
      refine g_region ?_
      refine g_step rfl (s_val (v_move rfl) rfl rfl ?_)
      refine g_step rfl (s_val (v_move rfl) rfl rfl ?_)
      refine g_step rfl (s_callp rfl rfl rfl (apply_ok l ms _ _ rfl (by omega) hsl (by omega)) ?_)
      rintro _ rfl
      refine g_step rfl (s_val (v_assign rfl) rfl rfl ?_)
      refine g_nil ?_
      refine g_next hK5 ?_
      refine g_seq (fun K6 hK6 => ?_)
      refine g_seq (fun K7 hK7 => ?_)
      refine g_region ?_
      refine g_step rfl (s_val (v_move rfl) rfl rfl ?_)
      refine g_step rfl (s_val (v_len ty22 rfl (by first | rfl | assumption) (by first | exact List.length_map .. | rfl)) rfl rfl ?_)
      refine g_step rfl (s_val (v_move rfl) rfl rfl ?_)
      refine g_step rfl (s_val (v_len ty22 rfl (by first | rfl | assumption) (by first | exact List.length_map .. | rfl)) rfl rfl ?_)
      refine g_step rfl (s_val (v_neq rfl rfl) rfl rfl ?_)
      refine g_nil ?_
      refine g_next hK7 ?_
      refine g_cond rfl (fun hc25 => ?_) (fun hc25 => ?_)
      · exfalso; (try simp only [decide_eq_true_eq, decide_eq_false_iff_not, Bool.not_eq_true', Bool.not_eq_false', Bool.not_eq_eq_eq_not, Bool.not_true, Bool.not_false, Bool.and_eq_true, Bool.or_eq_true, Bool.or_eq_false_iff, beq_iff_eq, beq_eq_false_iff_ne, ne_eq, Int.not_lt, Int.not_le, Decidable.not_not] at hc25); simp [applyL] at hc25
      · try simp only [decide_eq_true_eq, decide_eq_false_iff_not, Bool.not_eq_true', Bool.not_eq_false', Bool.not_eq_eq_eq_not, Bool.not_true, Bool.not_false, Bool.and_eq_true, Bool.or_eq_true, Bool.or_eq_false_iff, beq_iff_eq, beq_eq_false_iff_ne, ne_eq, Int.not_lt, Int.not_le, Decidable.not_not] at hc25
        refine g_skip ?_
        refine g_next hK6 ?_
        refine g_seq (fun K8 hK8 => ?_)
        refine g_seq (fun K9 hK9 => ?_)
        refine g_region ?_
        refine g_step rfl (s_val (v_assign rfl) rfl rfl ?_)
        refine g_nil ?_
        refine g_next hK9 ?_
        refine g_block ?_
        first | refine g_keep [0, 1, 5, 6] [] [] (keep_cons rfl (keep_cons rfl (keep_cons rfl (keep_cons rfl keep_nil)))) lkeep_nil keep_nil rfl ?_ | refine g_keep [0, 1, 5, 6] [] [] rfl rfl rfl rfl ?_
        refine g_loop (fun n env L B G => ∃ (i : Nat) , i ≤ l.length ∧ n = l.length - i ∧ env = [(0, encRs l), (1, .imm (ms.map encMv)), (5, (encRs (applyL l ms))), (6, .int .i64 (i : Int))] ∧ L = [] ∧ B = [] ∧ H = G ∧ True) (l.length) ⟨0, Nat.zero_le _, rfl, rfl, rfl, rfl, rfl, trivial⟩ (fun n env L B G hI => ?_)
        obtain ⟨i, hi, rfl, rfl, rfl, rfl, rfl, hc⟩ := hI
        refine g_seq (fun K10 hK10 => ?_)
        refine g_seq (fun K11 hK11 => ?_)
        refine g_region ?_
        refine g_step rfl (s_val (v_move rfl) rfl rfl ?_)
        refine g_step rfl (s_val (v_move rfl) rfl rfl ?_)
        refine g_step rfl (s_val (v_len ty22 rfl (by first | rfl | assumption) (by first | exact List.length_map .. | rfl)) rfl rfl ?_)
        refine g_step rfl (s_val (v_lss rfl rfl) rfl rfl ?_)
        refine g_nil ?_
        refine g_next hK11 ?_
        refine g_cond rfl (fun hc29 => ?_) (fun hc29 => ?_)
        · try simp only [decide_eq_true_eq, decide_eq_false_iff_not, Bool.not_eq_true', Bool.not_eq_false', Bool.not_eq_eq_eq_not, Bool.not_true, Bool.not_false, Bool.and_eq_true, Bool.or_eq_true, Bool.or_eq_false_iff, beq_iff_eq, beq_eq_false_iff_ne, ne_eq, Int.not_lt, Int.not_le, Decidable.not_not] at hc29
          obtain ⟨x, hx⟩ := get_some (l := l) (k := i) (by omega)
          refine g_skip ?_
          refine g_next hK10 ?_
          refine g_seq (fun K12 hK12 => ?_)
          refine g_block ?_
          refine g_seq (fun K13 hK13 => ?_)
          refine g_region ?_
          refine g_step rfl (s_val (v_move rfl) rfl rfl ?_)
          refine g_step rfl (s_val (v_move rfl) rfl rfl ?_)
          refine g_step rfl (s_val (v_indexAddr ty22 ty32 rfl rfl (by first | rfl | assumption) (by first | rfl | exact (rfl : (0 : Int) = ((0 : Nat) : Int)) | exact (Int.toNat_of_nonneg (by omega)).symm) (by first | assumption | exact map_get (by assumption) | rfl) rfl) rfl rfl ?_)
          refine g_step rfl (s_val (by first | exact v_load_elt ty32 rfl rfl (by first | rfl | assumption) (by first | assumption | exact map_get (by assumption) | rfl) rfl rfl | exact v_load_box_all ty32 rfl rfl (by assumption) rfl rfl | exact v_load_part (cs := [_, _, _, _, _, _, _]) ty32 rfl rfl (by first | rfl | assumption) (by first | assumption | exact map_get (by assumption) | rfl) rfl rfl rfl | exact v_load_box_part (cs := [_, _, _, _, _, _, _]) ty32 rfl rfl (by assumption) rfl rfl rfl) rfl rfl ?_)
          refine g_step rfl (s_alloc (av := (.agg [(.int .i64 0), (.int .i64 0), (.int .i64 0), (.int .i64 0), (.int .i64 0), (.bool false), .nil0])) ty32 rfl rfl rfl rfl ?_)
          refine g_step rfl (s_store_all ty32 rfl rfl rfl rfl rfl rfl ?_)
          refine g_nil ?_
          refine g_next hK13 ?_
          refine g_seq (fun K14 hK14 => ?_)
          refine g_seq (fun K15 hK15 => ?_)
          refine g_region ?_
          refine g_step rfl (s_val (v_assign rfl) rfl rfl ?_)
          refine g_nil ?_
          refine g_next hK15 ?_
          refine g_block ?_
          first | refine g_keep [0, 1, 5, 6, 8] [7] [7] (keep_cons rfl (keep_cons rfl (keep_cons rfl (keep_cons rfl (keep_cons rfl keep_nil))))) (lkeep_cons rfl lkeep_nil) (keep_cons rfl keep_nil) rfl ?_ | refine g_keep [0, 1, 5, 6, 8] [7] [7] rfl rfl rfl rfl ?_
          refine g_loop (fun n env L B G => ∃ (j : Nat) (q : Rc), j ≤ ms.length ∧ n = ms.length - j ∧ env = [(0, encRs l), (1, .imm (ms.map encMv)), (5, (encRs (applyL l ms))), (6, .int .i64 (i : Int)), (8, .int .i64 (j : Int))] ∧ L = [(7, 7, 0)] ∧ B = [(7, (encR q))] ∧ H = G ∧ q = applyR (ms.take j) x) (ms.length) ⟨0, x, Nat.zero_le _, rfl, rfl, rfl, rfl, rfl, rfl⟩ (fun n env L B G hI => ?_)
          obtain ⟨j, q, hj, rfl, rfl, rfl, rfl, rfl, hq⟩ := hI
          refine g_seq (fun K16 hK16 => ?_)
          refine g_seq (fun K17 hK17 => ?_)
          refine g_region ?_
          refine g_step rfl (s_val (v_move rfl) rfl rfl ?_)
          refine g_step rfl (s_val (v_move rfl) rfl rfl ?_)
          refine g_step rfl (s_val (v_len ty35 rfl (by first | rfl | assumption) (by first | exact List.length_map .. | rfl)) rfl rfl ?_)
          refine g_step rfl (s_val (v_lss rfl rfl) rfl rfl ?_)
          refine g_nil ?_
          refine g_next hK17 ?_
          refine g_cond rfl (fun hc39 => ?_) (fun hc39 => ?_)
          · try simp only [decide_eq_true_eq, decide_eq_false_iff_not, Bool.not_eq_true', Bool.not_eq_false', Bool.not_eq_eq_eq_not, Bool.not_true, Bool.not_false, Bool.and_eq_true, Bool.or_eq_true, Bool.or_eq_false_iff, beq_iff_eq, beq_eq_false_iff_ne, ne_eq, Int.not_lt, Int.not_le, Decidable.not_not] at hc39
            obtain ⟨m, hm⟩ := get_some (l := ms) (k := j) (by omega)
            have hqi : q.id = x.id := by rw [hq]; exact (applyR_keep _ _).1
            refine g_skip ?_
            refine g_next hK16 ?_
            refine g_seq (fun K18 hK18 => ?_)
            refine g_block ?_
            refine g_seq (fun K19 hK19 => ?_)
            refine g_draw (n := 11) (fun j => !([] : List Nat).contains j) rfl rfl ?_
            refine m_take 0 false rfl rfl (by kernel_rfl) (by kernel_rfl) (by kernel_rfl) (fun _ _ _ _ h => h) (v_move rfl) rfl rfl ?_
            refine m_take 1 false rfl rfl (by kernel_rfl) (by kernel_rfl) (by kernel_rfl) (fun _ _ _ _ h => h) (v_move rfl) rfl rfl ?_
            refine m_take 2 false rfl rfl (by kernel_rfl) (by kernel_rfl) (by kernel_rfl) (fun _ _ _ _ h => h) (v_indexAddr ty35 ty42 rfl rfl (by first | rfl | assumption) (by first | rfl | exact (rfl : (0 : Int) = ((0 : Nat) : Int)) | exact (Int.toNat_of_nonneg (by omega)).symm) (map_get hm) rfl) rfl rfl ?_
            refine m_take 3 false rfl rfl (by kernel_rfl) (by kernel_rfl) (by kernel_rfl) (fun _ _ _ _ h => h) (by first | exact v_fieldAddr ty42 fo42_0 ty3 rfl | exact v_fieldAddr_box ty42 fo42_0 ty3 rfl) rfl rfl ?_
            refine m_take 4 true rfl rfl (by kernel_rfl) (by kernel_rfl) (by kernel_rfl) (fun _ _ _ _ h => h) (by first | exact v_load ty3 rfl rfl (by first | rfl | assumption) (map_get hm) rfl | exact v_load_box ty3 rfl rfl (by assumption) rfl) rfl rfl ?_
            refine m_take 5 false rfl rfl (by kernel_rfl) (by kernel_rfl) (by kernel_rfl) (fun _ _ _ _ h => h) (v_move rfl) rfl rfl ?_
            refine m_take 6 false rfl rfl (by kernel_rfl) (by kernel_rfl) (by kernel_rfl) (fun _ _ _ _ h => h) (v_move rfl) rfl rfl ?_
            refine m_take 7 false rfl rfl (by kernel_rfl) (by kernel_rfl) (by kernel_rfl) (fun _ _ _ _ h => h) (v_indexAddr ty22 ty32 rfl rfl (by first | rfl | assumption) (by first | rfl | exact (rfl : (0 : Int) = ((0 : Nat) : Int)) | exact (Int.toNat_of_nonneg (by omega)).symm) (map_get hx) rfl) rfl rfl ?_
            refine m_take 8 false rfl rfl (by kernel_rfl) (by kernel_rfl) (by kernel_rfl) (fun _ _ _ _ h => h) (by first | exact v_fieldAddr ty32 fo32_0 ty3 rfl | exact v_fieldAddr_box ty32 fo32_0 ty3 rfl) rfl rfl ?_
            refine m_take 9 true rfl rfl (by kernel_rfl) (by kernel_rfl) (by kernel_rfl) (fun _ _ _ _ h => h) (by first | exact v_load ty3 rfl rfl (by first | rfl | assumption) (map_get hx) rfl | exact v_load_box ty3 rfl rfl (by assumption) rfl) rfl rfl ?_
            refine m_take 10 false rfl rfl (by kernel_rfl) (by kernel_rfl) (by kernel_rfl) (fun _ _ _ _ h => h) (v_eql rfl rfl) rfl rfl ?_
            refine m_done (by kernel_rfl) ?_
            refine g_next hK19 ?_
            refine g_cond rfl (fun hc52 => ?_) (fun hc52 => ?_)
            · try simp only [decide_eq_true_eq, decide_eq_false_iff_not, Bool.not_eq_true', Bool.not_eq_false', Bool.not_eq_eq_eq_not, Bool.not_true, Bool.not_false, Bool.and_eq_true, Bool.or_eq_true, Bool.or_eq_false_iff, beq_iff_eq, beq_eq_false_iff_ne, ne_eq, Int.not_lt, Int.not_le, Decidable.not_not] at hc52
              refine g_region ?_
              refine g_step rfl (s_val (v_move rfl) rfl rfl ?_)
              refine g_step rfl (s_val (v_move rfl) rfl rfl ?_)
              refine g_step rfl (s_val (v_indexAddr ty35 ty42 rfl rfl (by first | rfl | assumption) (by first | rfl | exact (rfl : (0 : Int) = ((0 : Nat) : Int)) | exact (Int.toNat_of_nonneg (by omega)).symm) (map_get hm) rfl) rfl rfl ?_)
              refine g_step rfl (s_val (by first | exact v_fieldAddr ty42 fo42_1 ty24 rfl | exact v_fieldAddr_box ty42 fo42_1 ty24 rfl) rfl rfl ?_)
              refine g_step rfl (s_val (by first | exact v_load_elt ty24 rfl rfl (by first | rfl | assumption) (map_get hm) rfl rfl | exact v_load_box_all ty24 rfl rfl (by assumption) rfl rfl | exact v_load_part (cs := [_, _]) ty24 rfl rfl (by first | rfl | assumption) (map_get hm) rfl rfl rfl | exact v_load_box_part (cs := [_, _]) ty24 rfl rfl (by assumption) rfl rfl rfl) rfl rfl ?_)
              refine g_step rfl (s_fieldAddr ty32 fo32_3 ty24 rfl rfl ?_)
              refine g_step rfl (s_store (new := (encR (setSp q m.sp))) ty24 rfl rfl rfl rfl rfl rfl rfl ?_)
              refine g_nil ?_
              refine g_block_normal ?_
              refine g_next hK18 ?_
              first | refine g_keep [0, 1, 5, 6, 8] [7] [7] (keep_cons rfl (keep_cons rfl (keep_cons rfl (keep_cons rfl (keep_cons rfl keep_nil))))) (lkeep_cons rfl lkeep_nil) (keep_cons rfl keep_nil) rfl ?_ | refine g_keep [0, 1, 5, 6, 8] [7] [7] rfl rfl rfl rfl ?_
              refine g_region ?_
              refine g_step rfl (s_val (v_move rfl) rfl rfl ?_)
              refine g_step rfl (s_val (v_add rfl rfl (by omega)) rfl rfl ?_)
              refine g_step rfl (s_val (v_assign rfl) rfl rfl ?_)
              refine g_nil ?_
              first | refine g_keep [0, 1, 5, 6, 8] [7] [7] (keep_cons rfl (keep_cons rfl (keep_cons rfl (keep_cons rfl (keep_cons rfl keep_nil))))) (lkeep_cons rfl lkeep_nil) (keep_cons rfl keep_nil) rfl ?_ | refine g_keep [0, 1, 5, 6, 8] [7] [7] rfl rfl rfl rfl ?_
              first | exact g_round _ (by omega) ⟨j + 1, (setSp q m.sp), by omega, rfl, rfl, rfl, rfl, rfl, by rw [applyR_snoc hm, ← hq, app1, if_pos (by omega)]⟩ | exact g_round _ (by omega) ⟨j + 1, q, by omega, rfl, rfl, rfl, rfl, rfl, by rw [applyR_snoc hm, ← hq, app1, if_neg (by omega)]⟩
            · try simp only [decide_eq_true_eq, decide_eq_false_iff_not, Bool.not_eq_true', Bool.not_eq_false', Bool.not_eq_eq_eq_not, Bool.not_true, Bool.not_false, Bool.and_eq_true, Bool.or_eq_true, Bool.or_eq_false_iff, beq_iff_eq, beq_eq_false_iff_ne, ne_eq, Int.not_lt, Int.not_le, Decidable.not_not] at hc52
              refine g_skip ?_
              refine g_block_normal ?_
              refine g_next hK18 ?_
              refine g_region ?_
              refine g_step rfl (s_val (v_move rfl) rfl rfl ?_)
              refine g_step rfl (s_val (v_add rfl rfl (by omega)) rfl rfl ?_)
              refine g_step rfl (s_val (v_assign rfl) rfl rfl ?_)
              refine g_nil ?_
              first | refine g_keep [0, 1, 5, 6, 8] [7] [7] (keep_cons rfl (keep_cons rfl (keep_cons rfl (keep_cons rfl (keep_cons rfl keep_nil))))) (lkeep_cons rfl lkeep_nil) (keep_cons rfl keep_nil) rfl ?_ | refine g_keep [0, 1, 5, 6, 8] [7] [7] rfl rfl rfl rfl ?_
              first | exact g_round _ (by omega) ⟨j + 1, (setSp q m.sp), by omega, rfl, rfl, rfl, rfl, rfl, by rw [applyR_snoc hm, ← hq, app1, if_pos (by omega)]⟩ | exact g_round _ (by omega) ⟨j + 1, q, by omega, rfl, rfl, rfl, rfl, rfl, by rw [applyR_snoc hm, ← hq, app1, if_neg (by omega)]⟩
          · try simp only [decide_eq_true_eq, decide_eq_false_iff_not, Bool.not_eq_true', Bool.not_eq_false', Bool.not_eq_eq_eq_not, Bool.not_true, Bool.not_false, Bool.and_eq_true, Bool.or_eq_true, Bool.or_eq_false_iff, beq_iff_eq, beq_eq_false_iff_ne, ne_eq, Int.not_lt, Int.not_le, Decidable.not_not] at hc39
            obtain rfl : j = ms.length := by omega
            rw [List.take_length] at hq
            have hax : (applyL l ms)[i]? = some (applyR ms x) := by rw [applyL, List.getElem?_map, hx]; rfl
            have hsx := hsl x (mem_get hx)
            have hsa : Small (applyR ms x).bag := by rw [(applyR_keep ms x).2.1]; exact hsx
            refine g_exit ?_
            refine g_then_exit ?_
            refine g_then_exit ?_
            refine g_block_same ?_
            refine g_next hK14 ?_
            refine g_seq (fun K20 hK20 => ?_)
            refine g_draw (n := 7) (fun j => !([] : List Nat).contains j) rfl rfl ?_
            refine m_take 0 false rfl rfl (by kernel_rfl) (by kernel_rfl) (by kernel_rfl) (fun _ _ _ _ h => h) (v_move rfl) rfl rfl ?_
            refine m_take 1 false rfl rfl (by kernel_rfl) (by kernel_rfl) (by kernel_rfl) (fun _ _ _ _ h => h) (v_move rfl) rfl rfl ?_
            refine m_take 2 false rfl rfl (by kernel_rfl) (by kernel_rfl) (by kernel_rfl) (fun _ _ _ _ h => h) (v_indexAddr ty22 ty32 rfl rfl (by first | rfl | assumption) (by first | rfl | exact (rfl : (0 : Int) = ((0 : Nat) : Int)) | exact (Int.toNat_of_nonneg (by omega)).symm) (map_get hax) rfl) rfl rfl ?_
            refine m_take 3 true rfl rfl (by kernel_rfl) (by kernel_rfl) (by kernel_rfl) (fun _ _ _ _ h => h) (by first | exact v_load_elt ty32 rfl rfl (by first | rfl | assumption) (map_get hax) rfl rfl | exact v_load_box_all ty32 rfl rfl (by assumption) rfl rfl | exact v_load_part (cs := [_, _, _, _, _, _, _]) ty32 rfl rfl (by first | rfl | assumption) (map_get hax) rfl rfl rfl | exact v_load_box_part (cs := [_, _, _, _, _, _, _]) ty32 rfl rfl (by assumption) rfl rfl rfl) rfl rfl ?_
            refine m_take 4 true rfl rfl (by kernel_rfl) (by kernel_rfl) (by kernel_rfl) (fun _ _ _ _ h => h) (by first | exact v_loadl_all ty32 rfl rfl rfl rfl rfl | exact v_loadl_part (cs := [_, _, _, _, _, _, _]) ty32 rfl rfl rfl rfl rfl rfl) rfl rfl ?_
            refine m_one 5 (by kernel_rfl) rfl rfl ?_
            refine sm_callp rfl rfl rfl (alike_ok (applyR ms x) q _ hsa) ?_
            rintro _ rfl
            refine m_take 6 false rfl rfl (by kernel_rfl) (by kernel_rfl) (by kernel_rfl) (fun _ _ _ _ h => h) (v_not rfl) rfl rfl ?_
            refine m_done (by kernel_rfl) ?_
            refine g_next hK20 ?_
            refine g_cond rfl (fun hc65 => ?_) (fun hc65 => ?_)
            · exfalso; (try simp only [decide_eq_true_eq, decide_eq_false_iff_not, Bool.not_eq_true', Bool.not_eq_false', Bool.not_eq_eq_eq_not, Bool.not_true, Bool.not_false, Bool.and_eq_true, Bool.or_eq_true, Bool.or_eq_false_iff, beq_iff_eq, beq_eq_false_iff_ne, ne_eq, Int.not_lt, Int.not_le, Decidable.not_not] at hc65); exact hc65 hq.symm
            · try simp only [decide_eq_true_eq, decide_eq_false_iff_not, Bool.not_eq_true', Bool.not_eq_false', Bool.not_eq_eq_eq_not, Bool.not_true, Bool.not_false, Bool.and_eq_true, Bool.or_eq_true, Bool.or_eq_false_iff, beq_iff_eq, beq_eq_false_iff_ne, ne_eq, Int.not_lt, Int.not_le, Decidable.not_not] at hc65
              refine g_skip ?_
              refine g_block_normal ?_
              refine g_next hK12 ?_
              refine g_region ?_
              refine g_step rfl (s_val (v_move rfl) rfl rfl ?_)
              refine g_step rfl (s_val (v_add rfl rfl (by omega)) rfl rfl ?_)
              refine g_step rfl (s_val (v_assign rfl) rfl rfl ?_)
              refine g_nil ?_
              first | refine g_keep [0, 1, 5, 6] [] [] (keep_cons rfl (keep_cons rfl (keep_cons rfl (keep_cons rfl keep_nil)))) lkeep_nil keep_nil rfl ?_ | refine g_keep [0, 1, 5, 6] [] [] rfl rfl rfl rfl ?_
              exact g_round _ (by omega) ⟨i + 1, by omega, rfl, rfl, rfl, rfl, rfl, trivial⟩
        · try simp only [decide_eq_true_eq, decide_eq_false_iff_not, Bool.not_eq_true', Bool.not_eq_false', Bool.not_eq_eq_eq_not, Bool.not_true, Bool.not_false, Bool.and_eq_true, Bool.or_eq_true, Bool.or_eq_false_iff, beq_iff_eq, beq_eq_false_iff_ne, ne_eq, Int.not_lt, Int.not_le, Decidable.not_not] at hc29
          obtain rfl : i = l.length := by omega
          refine g_exit ?_
          refine g_then_exit ?_
          refine g_then_exit ?_
          refine g_block_same ?_
          refine g_next hK8 ?_
          refine g_seq (fun K21 hK21 => ?_)
          refine g_region ?_
          refine g_step rfl (s_callp rfl rfl rfl (awake32_ok _) ?_)
          rintro _ rfl
          refine g_step rfl (s_val (v_assign rfl) rfl rfl ?_)
          refine g_nil ?_
          refine g_next hK21 ?_
          refine g_ret ?_
          refine g_end1 (.inl rfl) Try.results5 (.tmp rfl) [] (ASub.refl _) (AHeap.sub_refl _) (fun p hp => by cases hp) ⟨rfl, ?_⟩
          rfl

theorem planMoves_ok (l : List Rc) (t : Sp) (w : Int) (hh : ∀ r ∈ l, Held r.bag) (hlen : l.length ≤ 140737488351232) (G : AHeap) : PCalls Try.prog 4 [encRs l, encSp t, .int .i64 w] G (fun v => v = .bool true) := by
  refine LCalls.intro 173 fi4 rfl Try.ntmps4 rfl (fun _ h => h.elim) (fun H hH w0 hw0 => ?_)
  refine g_seq (fun K0 hK0 => ?_)
  refine g_region ?_
  refine g_step rfl (s_box rfl rfl rfl rfl ?_)
  refine g_step rfl (s_val (v_assign rfl) rfl rfl ?_)
  refine g_nil ?_
  refine g_next hK0 ?_
  refine g_seq (fun K1 hK1 => ?_)
  refine g_seq (fun K2 hK2 => ?_)
  refine g_region ?_
  refine g_step rfl (s_val (v_move rfl) rfl rfl ?_)
  refine g_step rfl (s_callp rfl rfl rfl (fewL_ok l _ _ rfl hh hlen) ?_)
  rintro _ rfl
  refine g_step rfl (s_val (v_not rfl) rfl rfl ?_)
  refine g_nil ?_
  refine g_next hK2 ?_
  refine g_cond rfl (fun hc16 => ?_) (fun hc16 => ?_)
  · try simp only [decide_eq_true_eq, decide_eq_false_iff_not, Bool.not_eq_true', Bool.not_eq_false', Bool.not_eq_eq_eq_not, Bool.not_true, Bool.not_false, Bool.and_eq_true, Bool.or_eq_true, Bool.or_eq_false_iff, beq_iff_eq, beq_eq_false_iff_ne, ne_eq, Int.not_lt, Int.not_le, Decidable.not_not] at hc16
    refine g_seq (fun K3 hK3 => ?_)
    refine g_region ?_
    refine g_step rfl (s_callp rfl rfl rfl (awake32_ok _) ?_)
    rintro _ rfl
    refine g_step rfl (s_val (v_assign rfl) rfl rfl ?_)
    refine g_nil ?_
    refine g_next hK3 ?_
    refine g_ret ?_
    refine g_then_ret ?_
    refine g_end1 (.inl rfl) Try.results4 (.tmp rfl) [] (ASub.refl _) (by first | exact AHeap.sub_refl _ | exact hown.sub) (fun p hp => by cases hp) ⟨rfl, ?_⟩
    rfl
  · try simp only [decide_eq_true_eq, decide_eq_false_iff_not, Bool.not_eq_true', Bool.not_eq_false', Bool.not_eq_eq_eq_not, Bool.not_true, Bool.not_false, Bool.and_eq_true, Bool.or_eq_true, Bool.or_eq_false_iff, beq_iff_eq, beq_eq_false_iff_ne, ne_eq, Int.not_lt, Int.not_le, Decidable.not_not] at hc16
    obtain ⟨hl20, hsl⟩ := fewL_small (l := l) (by first | assumption | simp_all)
    refine g_skip ?_
    refine g_next hK1 ?_
    refine g_seq (fun K4 hK4 => ?_)
    refine g_region ?_
    refine g_step rfl (s_val (v_move rfl) rfl rfl ?_)
    refine g_step rfl (s_val (by first | exact v_loadl_all ty24 rfl rfl rfl rfl rfl | exact v_loadl_part (cs := [_, _]) ty24 rfl rfl rfl rfl rfl rfl) rfl rfl ?_)
    refine g_step rfl (s_val (v_move rfl) rfl rfl ?_)
    refine g_step rfl (s_callp rfl rfl rfl (plan_ok l t w _ (by omega) hsl) ?_)
    rintro _ rfl
    refine g_step rfl (s_val (v_move rfl) rfl rfl ?_)
    refine g_step rfl (s_val (v_extract rfl rfl) rfl rfl ?_)
    refine g_step rfl (s_val (v_extract rfl rfl) rfl rfl ?_)
    refine g_step rfl (s_val (v_assign rfl) rfl rfl ?_)
    refine g_step rfl (s_val (v_assign rfl) rfl rfl ?_)
    refine g_nil ?_
    refine g_next hK4 ?_
    refine g_cut (fun env L B G => env = [(0, encRs l), (2, .int .i64 w), (7, .imm ((planL l t w).map encMv))] ∧ L = [(4, 4, 0)] ∧ B = [(4, encSp t)] ∧ H = G ∧ spValid t = true ∧ (1 ≤ t.lo ∧ t.lo ≤ t.hi ∧ t.hi ≤ 3) ∧ (1 ≤ w ∧ w ≤ 3) ∧ (planL l t w) = doneL t w l 3) ?_ (fun env L B G hI => ?_)
    · skip
      refine g_seq (fun K5 hK5 => ?_)
      refine g_region ?_
      refine g_step rfl (s_val (v_move rfl) rfl rfl ?_)
      refine g_step rfl (s_val (v_move rfl) rfl rfl ?_)
      refine g_step rfl (s_val (by first | exact v_loadl_all ty24 rfl rfl rfl rfl rfl | exact v_loadl_part (cs := [_, _]) ty24 rfl rfl rfl rfl rfl rfl) rfl rfl ?_)
      refine g_step rfl (s_val (v_move rfl) rfl rfl ?_)
      refine g_step rfl (s_callp rfl rfl rfl (why_ok l t w _ (by omega) hsl) ?_)
      rintro _ rfl
      refine g_step rfl (s_val (v_neq rfl rfl) rfl rfl ?_)
      refine g_step rfl (s_val (v_move rfl) rfl rfl ?_)
      refine g_split 31 rfl (fun hg31 => ?_) (fun hg31 => ?_)
      · exfalso; (try simp only [decide_eq_true_eq, decide_eq_false_iff_not, Bool.not_eq_true', Bool.not_eq_false', Bool.not_eq_eq_eq_not, Bool.not_true, Bool.not_false, Bool.and_eq_true, Bool.or_eq_true, Bool.or_eq_false_iff, beq_iff_eq, beq_eq_false_iff_ne, ne_eq, Int.not_lt, Int.not_le, Decidable.not_not] at hg31); first | exact hg31 rfl | (simp at hg31; done)
      · try simp only [decide_eq_true_eq, decide_eq_false_iff_not, Bool.not_eq_true', Bool.not_eq_false', Bool.not_eq_eq_eq_not, Bool.not_true, Bool.not_false, Bool.and_eq_true, Bool.or_eq_true, Bool.or_eq_false_iff, beq_iff_eq, beq_eq_false_iff_ne, ne_eq, Int.not_lt, Int.not_le, Decidable.not_not] at hg31
        refine g_step_yes (j := 6) (t := 31) rfl rfl rfl rfl (s_val (v_move rfl) rfl rfl ?_)
        refine g_step_yes (j := 6) (t := 31) rfl rfl rfl rfl (s_val (v_neq rfl rfl) rfl rfl ?_)
        refine g_step rfl (s_val (v_pick_f rfl rfl) rfl rfl ?_)
        refine g_nil ?_
        refine g_next hK5 ?_
        first | refine g_keep [0, 2, 7, 8, 34] [4] [4] (keep_cons rfl (keep_cons rfl (keep_cons rfl (keep_cons rfl (keep_cons rfl keep_nil))))) (lkeep_cons rfl lkeep_nil) (keep_cons rfl keep_nil) rfl ?_ | refine g_keep [0, 2, 7, 8, 34] [4] [4] rfl rfl rfl rfl ?_
        refine g_cond rfl (fun hc34 => ?_) (fun hc34 => ?_)
        · try simp only [decide_eq_true_eq, decide_eq_false_iff_not, Bool.not_eq_true', Bool.not_eq_false', Bool.not_eq_eq_eq_not, Bool.not_true, Bool.not_false, Bool.and_eq_true, Bool.or_eq_true, Bool.or_eq_false_iff, beq_iff_eq, beq_eq_false_iff_ne, ne_eq, Int.not_lt, Int.not_le, Decidable.not_not] at hc34
          refine g_seq (fun K6 hK6 => ?_)
          refine g_region ?_
          refine g_step rfl (s_val (v_move rfl) rfl rfl ?_)
          refine g_step rfl (s_val (v_move rfl) rfl rfl ?_)
          refine g_step rfl (s_val (by first | exact v_loadl_all ty24 rfl rfl rfl rfl rfl | exact v_loadl_part (cs := [_, _]) ty24 rfl rfl rfl rfl rfl rfl) rfl rfl ?_)
          refine g_step rfl (s_val (v_move rfl) rfl rfl ?_)
          refine g_step rfl (s_callp rfl rfl rfl (why_ok l t w _ (by omega) hsl) ?_)
          rintro _ rfl
          refine g_step rfl (s_val (v_eql rfl rfl) rfl rfl ?_)
          refine g_step rfl (s_val (v_move rfl) rfl rfl ?_)
          refine g_split 41 rfl (fun hg41 => ?_) (fun hg41 => ?_)
          · try simp only [decide_eq_true_eq, decide_eq_false_iff_not, Bool.not_eq_true', Bool.not_eq_false', Bool.not_eq_eq_eq_not, Bool.not_true, Bool.not_false, Bool.and_eq_true, Bool.or_eq_true, Bool.or_eq_false_iff, beq_iff_eq, beq_eq_false_iff_ne, ne_eq, Int.not_lt, Int.not_le, Decidable.not_not] at hg41
            refine g_step_yes (j := 6) (t := 41) rfl rfl rfl rfl (s_val (v_move rfl) rfl rfl ?_)
            refine g_step_yes (j := 6) (t := 41) rfl rfl rfl rfl (s_val (v_len ty35 rfl (by first | rfl | assumption) (by first | exact List.length_map .. | rfl)) rfl rfl ?_)
            refine g_step_yes (j := 6) (t := 41) rfl rfl rfl rfl (s_val (v_eql rfl rfl) rfl rfl ?_)
            refine g_step rfl (s_val (v_pick_t rfl rfl) rfl rfl ?_)
            refine g_step rfl (s_val (v_move rfl) rfl rfl ?_)
            refine g_split 46 rfl (fun hg46 => ?_) (fun hg46 => ?_)
            · try simp only [decide_eq_true_eq, decide_eq_false_iff_not, Bool.not_eq_true', Bool.not_eq_false', Bool.not_eq_eq_eq_not, Bool.not_true, Bool.not_false, Bool.and_eq_true, Bool.or_eq_true, Bool.or_eq_false_iff, beq_iff_eq, beq_eq_false_iff_ne, ne_eq, Int.not_lt, Int.not_le, Decidable.not_not] at hg46
              refine g_step_yes (j := 11) (t := 46) rfl rfl rfl rfl (s_callp rfl rfl rfl (awake32_ok _) ?_)
              rintro _ rfl
              refine g_step rfl (s_val (v_pick_t rfl rfl) rfl rfl ?_)
              refine g_step rfl (s_val (v_assign rfl) rfl rfl ?_)
              refine g_nil ?_
              refine g_next hK6 ?_
              refine g_ret ?_
              refine g_then_ret ?_
              refine g_end1 (.inl rfl) Try.results4 (.tmp rfl) [] (ASub.refl _) (by first | exact AHeap.sub_refl _ | exact hown.sub) (fun p hp => by cases hp) ⟨rfl, ?_⟩
              rfl
            · exfalso; (try simp only [decide_eq_true_eq, decide_eq_false_iff_not, Bool.not_eq_true', Bool.not_eq_false', Bool.not_eq_eq_eq_not, Bool.not_true, Bool.not_false, Bool.and_eq_true, Bool.or_eq_true, Bool.or_eq_false_iff, beq_iff_eq, beq_eq_false_iff_ne, ne_eq, Int.not_lt, Int.not_le, Decidable.not_not] at hg46); rw [if_neg hc34] at hg46; simp at hg46
          · exfalso; (try simp only [decide_eq_true_eq, decide_eq_false_iff_not, Bool.not_eq_true', Bool.not_eq_false', Bool.not_eq_eq_eq_not, Bool.not_true, Bool.not_false, Bool.and_eq_true, Bool.or_eq_true, Bool.or_eq_false_iff, beq_iff_eq, beq_eq_false_iff_ne, ne_eq, Int.not_lt, Int.not_le, Decidable.not_not] at hg41); first | exact hg41 rfl | (simp at hg41; done)
        · try simp only [decide_eq_true_eq, decide_eq_false_iff_not, Bool.not_eq_true', Bool.not_eq_false', Bool.not_eq_eq_eq_not, Bool.not_true, Bool.not_false, Bool.and_eq_true, Bool.or_eq_true, Bool.or_eq_false_iff, beq_iff_eq, beq_eq_false_iff_ne, ne_eq, Int.not_lt, Int.not_le, Decidable.not_not] at hc34
          rw [if_pos hc34]
          obtain ⟨z1, z2, z3, z4, z5, z6⟩ := may_zero hc34
          have hv2 : 1 ≤ t.lo ∧ t.lo ≤ t.hi ∧ t.hi ≤ 3 := by simpa [spValid] using z2
          have hpd := plan_done (l := l) (w := w) z2
          refine g_skip ?_
          first | refine g_keep [0, 2, 7] [4] [4] (keep_cons rfl (keep_cons rfl (keep_cons rfl keep_nil))) (lkeep_cons rfl lkeep_nil) (keep_cons rfl keep_nil) rfl ?_ | refine g_keep [0, 2, 7] [4] [4] rfl rfl rfl rfl ?_
          exact g_has ⟨rfl, rfl, rfl, rfl, ⟨z2, hv2, ⟨z3.1, z3.2.1⟩, hpd⟩⟩
    · skip
      obtain ⟨rfl, rfl, rfl, rfl, z2, hv2, hw13, hpd⟩ := hI
      refine g_seq (fun K7 hK7 => ?_)
      refine g_region ?_
      refine g_step rfl (s_val (v_move rfl) rfl rfl ?_)
      refine g_step rfl (s_call rfl rfl rfl (recCopyO_ok l _ _ rfl (by omega) hsl) (fun _ h => h.elim) ?_)
      rintro n1 av effs1 hn1 hdom1 hR1 hok1
      have hown := hR1.own (n0 := w0.heap.size) hn1 hdom1
      generalize setAll H effs1 = G1 at hown ⊢
      refine g_step rfl (s_val (v_assign rfl) rfl rfl ?_)
      refine g_nil ?_
      refine g_next hK7 ?_
      refine g_seq (fun K8 hK8 => ?_)
      refine g_region ?_
      refine g_step rfl (s_val (v_assign rfl) rfl rfl ?_)
      refine g_nil ?_
      refine g_next hK8 ?_
      refine g_seq (fun K9 hK9 => ?_)
      refine g_seq (fun K10 hK10 => ?_)
      refine g_region ?_
      refine g_step rfl (s_val (v_assign rfl) rfl rfl ?_)
      refine g_nil ?_
      refine g_next hK10 ?_
      refine g_block ?_
      first | refine g_keep [2, 7, 9, 10, 11] [4] [4] (keep_cons rfl (keep_cons rfl (keep_cons rfl (keep_cons rfl (keep_cons rfl keep_nil))))) (lkeep_cons rfl lkeep_nil) (keep_cons rfl keep_nil) rfl ?_ | refine g_keep [2, 7, 9, 10, 11] [4] [4] rfl rfl rfl rfl ?_
      refine g_loop (fun n env L B G => ∃ (k : Nat) (c : Int), k ≤ 3 ∧ n = 3 - k ∧ env = [(2, .int .i64 w), (7, .imm ((planL l t w).map encMv)), (9, av), (10, .int .i64 c), (11, .int .i64 ((k : Int) + 1))] ∧ L = [(4, 4, 0)] ∧ B = [(4, encSp t)] ∧ Own w0.heap.size 7 H av ((nowS t w l k).map encR) G ∧ c = ((doneL t w l k).length : Nat)) (3) ⟨0, 0, Nat.zero_le _, rfl, rfl, rfl, rfl, ⟨hown, rfl⟩⟩ (fun n env L B G hI => ?_)
      obtain ⟨k, c, hk, rfl, rfl, rfl, rfl, hown, hc⟩ := hI
      refine g_seq (fun K11 hK11 => ?_)
      refine g_seq (fun K12 hK12 => ?_)
      refine g_region ?_
      refine g_step rfl (s_val (v_move rfl) rfl rfl ?_)
      refine g_step rfl (s_val (v_leq rfl rfl) rfl rfl ?_)
      refine g_nil ?_
      refine g_next hK12 ?_
      refine g_cond rfl (fun hc52 => ?_) (fun hc52 => ?_)
      · try simp only [decide_eq_true_eq, decide_eq_false_iff_not, Bool.not_eq_true', Bool.not_eq_false', Bool.not_eq_eq_eq_not, Bool.not_true, Bool.not_false, Bool.and_eq_true, Bool.or_eq_true, Bool.or_eq_false_iff, beq_iff_eq, beq_eq_false_iff_ne, ne_eq, Int.not_lt, Int.not_le, Decidable.not_not] at hc52
        have hk3 : k < 3 := by omega
        have hnl := nowS_length t w l k
        have hdl := lawM_len (t := t) (w := w) (l := l) k
        have hkl : k * l.length ≤ 2 * l.length := Nat.mul_le_mul_right _ (by omega)
        refine g_skip ?_
        refine g_next hK11 ?_
        refine g_seq (fun K13 hK13 => ?_)
        refine g_block ?_
        refine g_seq (fun K14 hK14 => ?_)
        refine g_region ?_
        refine g_step rfl (s_val (v_assign rfl) rfl rfl ?_)
        refine g_nil ?_
        refine g_next hK14 ?_
        refine g_block ?_
        first | refine g_keep [2, 7, 9, 10, 11, 12] [4] [4] (keep_cons rfl (keep_cons rfl (keep_cons rfl (keep_cons rfl (keep_cons rfl (keep_cons rfl keep_nil)))))) (lkeep_cons rfl lkeep_nil) (keep_cons rfl keep_nil) rfl ?_ | refine g_keep [2, 7, 9, 10, 11, 12] [4] [4] rfl rfl rfl rfl ?_
        refine g_loop (fun n env L B G => ∃ (i : Nat) (c : Int), i ≤ (nowS t w l k).length ∧ n = (nowS t w l k).length - i ∧ env = [(2, .int .i64 w), (7, .imm ((planL l t w).map encMv)), (9, av), (10, .int .i64 c), (11, .int .i64 ((k : Int) + 1)), (12, .int .i64 (i : Int))] ∧ L = [(4, 4, 0)] ∧ B = [(4, encSp t)] ∧ Own w0.heap.size 7 H av ((putAll cnt (lawF t w ((k : Int) + 1)) i (nowS t w l k)).map encR) G ∧ c = ((doneL t w l k ++ (((nowS t w l k).take i).filterMap (lawM t w ((k : Int) + 1)))).length : Nat)) ((nowS t w l k).length) ⟨0, c, Nat.zero_le _, rfl, rfl, rfl, rfl, ⟨hown, by rw [hc]; simp⟩⟩ (fun n env L B G hI => ?_)
        obtain ⟨i, c, hi, rfl, rfl, rfl, rfl, hown, hc⟩ := hI
        refine g_seq (fun K15 hK15 => ?_)
        refine g_seq (fun K16 hK16 => ?_)
        refine g_region ?_
        refine g_step rfl (s_val (v_move rfl) rfl rfl ?_)
        refine g_step rfl (s_val (v_move rfl) rfl rfl ?_)
        refine g_step rfl (s_val (v_len ty22 rfl hown.view (by rw [List.length_map, putAll_length])) rfl rfl ?_)
        refine g_step rfl (s_val (v_lss rfl rfl) rfl rfl ?_)
        refine g_nil ?_
        refine g_next hK16 ?_
        refine g_cond rfl (fun hc58 => ?_) (fun hc58 => ?_)
        · try simp only [decide_eq_true_eq, decide_eq_false_iff_not, Bool.not_eq_true', Bool.not_eq_false', Bool.not_eq_eq_eq_not, Bool.not_true, Bool.not_false, Bool.and_eq_true, Bool.or_eq_true, Bool.or_eq_false_iff, beq_iff_eq, beq_eq_false_iff_ne, ne_eq, Int.not_lt, Int.not_le, Decidable.not_not] at hc58
          obtain ⟨x, hx⟩ := get_some (l := (nowS t w l k)) (k := i) (by omega)
          have hpx := putAll_get (p := cnt) (f := (lawF t w ((k : Int) + 1))) hx
          have hfl := List.length_filterMap_le (lawM t w ((k : Int) + 1)) ((nowS t w l k).take i)
          rw [List.length_take] at hfl
          have hcl : (doneL t w l k ++ ((nowS t w l k).take i).filterMap (lawM t w ((k : Int) + 1))).length ≤ 60 := by rw [List.length_append]; omega
          refine g_skip ?_
          refine g_next hK15 ?_
          refine g_seq (fun K17 hK17 => ?_)
          refine g_block ?_
          refine g_seq (fun K18 hK18 => ?_)
          refine g_region ?_
          refine g_step rfl (s_val (v_move rfl) rfl rfl ?_)
          refine g_step rfl (s_val (v_move rfl) rfl rfl ?_)
          refine g_step rfl (s_val (v_indexAddr ty22 ty32 rfl rfl hown.view (by first | rfl | exact (rfl : (0 : Int) = ((0 : Nat) : Int)) | exact (Int.toNat_of_nonneg (by omega)).symm) (map_get hpx) rfl) rfl rfl ?_)
          refine g_step rfl (s_val (by first | exact v_fieldAddr ty32 fo32_3 ty24 rfl | exact v_fieldAddr_box ty32 fo32_3 ty24 rfl) rfl rfl ?_)
          refine g_step rfl (s_val (by first | exact v_load_elt ty24 rfl rfl hown.view (map_get hpx) rfl rfl | exact v_load_box_all ty24 rfl rfl (by assumption) rfl rfl | exact v_load_part (cs := [_, _]) ty24 rfl rfl hown.view (map_get hpx) rfl rfl rfl | exact v_load_box_part (cs := [_, _]) ty24 rfl rfl (by assumption) rfl rfl rfl) rfl rfl ?_)
          refine g_step rfl (s_alloc (av := (.agg [(.int .i64 0), (.int .i64 0)])) ty24 rfl rfl rfl rfl ?_)
          refine g_step rfl (s_store_all ty24 rfl rfl rfl rfl rfl rfl ?_)
          refine g_nil ?_
          refine g_next hK18 ?_
          refine g_seq (fun K19 hK19 => ?_)
          refine g_seq (fun K20 hK20 => ?_)
          refine g_region ?_
          refine g_step rfl (s_val (v_move rfl) rfl rfl ?_)
          refine g_step rfl (s_val (v_move rfl) rfl rfl ?_)
          refine g_step rfl (s_val (v_indexAddr ty22 ty32 rfl rfl hown.view (by first | rfl | exact (rfl : (0 : Int) = ((0 : Nat) : Int)) | exact (Int.toNat_of_nonneg (by omega)).symm) (map_get hpx) rfl) rfl rfl ?_)
          refine g_step rfl (s_val (by first | exact v_load_elt ty32 rfl rfl hown.view (map_get hpx) rfl rfl | exact v_load_box_all ty32 rfl rfl (by assumption) rfl rfl | exact v_load_part (cs := [_, _, _, _, _, _, _]) ty32 rfl rfl hown.view (map_get hpx) rfl rfl rfl | exact v_load_box_part (cs := [_, _, _, _, _, _, _]) ty32 rfl rfl (by assumption) rfl rfl rfl) rfl rfl ?_)
          refine g_step rfl (s_callp rfl rfl rfl (counts32_ok _ _) ?_)
          rintro _ rfl
          refine g_step rfl (s_val (v_not rfl) rfl rfl ?_)
          refine g_nil ?_
          refine g_next hK20 ?_
          refine g_cond rfl (fun hc71 => ?_) (fun hc71 => ?_)
          · try simp only [decide_eq_true_eq, decide_eq_false_iff_not, Bool.not_eq_true', Bool.not_eq_false', Bool.not_eq_eq_eq_not, Bool.not_true, Bool.not_false, Bool.and_eq_true, Bool.or_eq_true, Bool.or_eq_false_iff, beq_iff_eq, beq_eq_false_iff_ne, ne_eq, Int.not_lt, Int.not_le, Decidable.not_not] at hc71
            refine g_exit ?_
            refine g_then_exit ?_
            refine g_block_same ?_
            refine g_next hK17 ?_
            refine g_region ?_
            refine g_step rfl (s_val (v_move rfl) rfl rfl ?_)
            refine g_step rfl (s_val (v_add rfl rfl (by omega)) rfl rfl ?_)
            refine g_step rfl (s_val (v_assign rfl) rfl rfl ?_)
            refine g_nil ?_
            first | refine g_keep [2, 7, 9, 10, 11, 12] [4] [4] (keep_cons rfl (keep_cons rfl (keep_cons rfl (keep_cons rfl (keep_cons rfl (keep_cons rfl keep_nil)))))) (lkeep_cons rfl lkeep_nil) (keep_cons rfl keep_nil) rfl ?_ | refine g_keep [2, 7, 9, 10, 11, 12] [4] [4] rfl rfl rfl rfl ?_
            first | exact g_round _ (by omega) ⟨i + 1, c2, by omega, rfl, rfl, rfl, rfl, ⟨by rw [← putAll_hit hx hcx, List.map_set]; exact hown3, hc2⟩⟩ | exact g_round _ (by omega) ⟨i + 1, c, by omega, rfl, rfl, rfl, rfl, ⟨by rw [← putAll_miss hx hc71]; exact hown, by rw [filterMap_snoc hx, lawM_none (.inl hc71)]; simpa using hc⟩⟩
          · try simp only [decide_eq_true_eq, decide_eq_false_iff_not, Bool.not_eq_true', Bool.not_eq_false', Bool.not_eq_eq_eq_not, Bool.not_true, Bool.not_false, Bool.and_eq_true, Bool.or_eq_true, Bool.or_eq_false_iff, beq_iff_eq, beq_eq_false_iff_ne, ne_eq, Int.not_lt, Int.not_le, Decidable.not_not] at hc71
            refine g_skip ?_
            refine g_next hK19 ?_
            refine g_cut (fun env L B G => ∃ (s2 : Sp), env = [(2, .int .i64 w), (7, .imm ((planL l t w).map encMv)), (9, av), (10, .int .i64 c), (11, .int .i64 ((k : Int) + 1)), (12, .int .i64 (i : Int))] ∧ L = [(4, 4, 0), (13, 13, 0)] ∧ B = [(4, encSp t), (13, (encSp s2))] ∧ cnt x = true ∧ s2 = lawSp t w ((k : Int) + 1) x.sp ∧ Own w0.heap.size 7 H av ((putAll cnt (lawF t w ((k : Int) + 1)) i (nowS t w l k)).map encR) G) ?_ (fun env L B G hI => ?_)
            · skip
              refine g_seq (fun K21 hK21 => ?_)
              refine g_region ?_
              have hcx : cnt x = true := by simpa using hc71
              refine g_step rfl (s_val (v_move rfl) rfl rfl ?_)
              refine g_step rfl (s_fieldAddr ty24 fo24_1 ty3 rfl rfl ?_)
              refine g_step rfl (s_val (v_loadl ty3 rfl rfl rfl rfl) rfl rfl ?_)
              refine g_step rfl (s_val (v_lss rfl rfl) rfl rfl ?_)
              refine g_step rfl (s_val (v_move rfl) rfl rfl ?_)
              refine g_split 76 rfl (fun hg76 => ?_) (fun hg76 => ?_)
              · try simp only [decide_eq_true_eq, decide_eq_false_iff_not, Bool.not_eq_true', Bool.not_eq_false', Bool.not_eq_eq_eq_not, Bool.not_true, Bool.not_false, Bool.and_eq_true, Bool.or_eq_true, Bool.or_eq_false_iff, beq_iff_eq, beq_eq_false_iff_ne, ne_eq, Int.not_lt, Int.not_le, Decidable.not_not] at hg76
                refine g_step_yes (j := 4) (t := 76) rfl rfl rfl rfl (s_fieldAddr ty24 fo24_1 ty3 rfl rfl ?_)
                refine g_step_yes (j := 4) (t := 76) rfl rfl rfl rfl (s_val (v_loadl ty3 rfl rfl rfl rfl) rfl rfl ?_)
                refine g_step_yes (j := 4) (t := 76) rfl rfl rfl rfl (s_val (v_move rfl) rfl rfl ?_)
                refine g_step_yes (j := 4) (t := 76) rfl rfl rfl rfl (s_val (v_eql rfl rfl) rfl rfl ?_)
                refine g_step rfl (s_val (v_pick_t rfl rfl) rfl rfl ?_)
                refine g_nil ?_
                refine g_next hK21 ?_
                first | refine g_keep [2, 7, 9, 10, 11, 12, 81] [4, 13] [4, 13] (keep_cons rfl (keep_cons rfl (keep_cons rfl (keep_cons rfl (keep_cons rfl (keep_cons rfl (keep_cons rfl keep_nil))))))) (lkeep_cons rfl (lkeep_cons rfl lkeep_nil)) (keep_cons rfl (keep_cons rfl keep_nil)) rfl ?_ | refine g_keep [2, 7, 9, 10, 11, 12, 81] [4, 13] [4, 13] rfl rfl rfl rfl ?_
                refine g_cond rfl (fun hc81 => ?_) (fun hc81 => ?_)
                · try simp only [decide_eq_true_eq, decide_eq_false_iff_not, Bool.not_eq_true', Bool.not_eq_false', Bool.not_eq_eq_eq_not, Bool.not_true, Bool.not_false, Bool.and_eq_true, Bool.or_eq_true, Bool.or_eq_false_iff, beq_iff_eq, beq_eq_false_iff_ne, ne_eq, Int.not_lt, Int.not_le, Decidable.not_not] at hc81
                  refine g_seq (fun K22 hK22 => ?_)
                  refine g_region ?_
                  refine g_step rfl (s_val (v_move rfl) rfl rfl ?_)
                  refine g_step rfl (s_val (v_add rfl rfl (by omega)) rfl rfl ?_)
                  refine g_step rfl (s_fieldAddr ty24 fo24_1 ty3 rfl rfl ?_)
                  refine g_step rfl (s_store (new := (encSp ⟨x.sp.lo, ((k : Int) + 1) + 1⟩)) ty3 rfl rfl rfl rfl rfl rfl rfl ?_)
                  refine g_nil ?_
                  refine g_next hK22 ?_
                  refine g_seq (fun K23 hK23 => ?_)
                  refine g_region ?_
                  refine g_step rfl (s_val (v_move rfl) rfl rfl ?_)
                  refine g_step rfl (s_val (v_add rfl rfl (by omega)) rfl rfl ?_)
                  refine g_step rfl (s_val (v_move rfl) rfl rfl ?_)
                  refine g_step rfl (s_val (v_sub_ rfl rfl (by omega)) rfl rfl ?_)
                  refine g_step rfl (s_fieldAddr ty24 fo24_0 ty3 rfl rfl ?_)
                  refine g_step rfl (s_val (v_loadl ty3 rfl rfl rfl rfl) rfl rfl ?_)
                  refine g_step rfl (s_val (v_gtr rfl rfl) rfl rfl ?_)
                  refine g_nil ?_
                  refine g_next hK23 ?_
                  refine g_cond rfl (fun hc91 => ?_) (fun hc91 => ?_)
                  · try simp only [decide_eq_true_eq, decide_eq_false_iff_not, Bool.not_eq_true', Bool.not_eq_false', Bool.not_eq_eq_eq_not, Bool.not_true, Bool.not_false, Bool.and_eq_true, Bool.or_eq_true, Bool.or_eq_false_iff, beq_iff_eq, beq_eq_false_iff_ne, ne_eq, Int.not_lt, Int.not_le, Decidable.not_not] at hc91
                    refine g_region ?_
                    refine g_step rfl (s_val (v_move rfl) rfl rfl ?_)
                    refine g_step rfl (s_val (v_add rfl rfl (by omega)) rfl rfl ?_)
                    refine g_step rfl (s_val (v_move rfl) rfl rfl ?_)
                    refine g_step rfl (s_val (v_sub_ rfl rfl (by omega)) rfl rfl ?_)
                    refine g_step rfl (s_fieldAddr ty24 fo24_0 ty3 rfl rfl ?_)
                    refine g_step rfl (s_store (new := (encSp ⟨((k : Int) + 1) + 2 - w, ((k : Int) + 1) + 1⟩)) ty3 rfl rfl rfl rfl rfl rfl rfl ?_)
                    refine g_nil ?_
                    first | refine g_keep [2, 7, 9, 10, 11, 12] [4, 13] [4, 13] (keep_cons rfl (keep_cons rfl (keep_cons rfl (keep_cons rfl (keep_cons rfl (keep_cons rfl keep_nil)))))) (lkeep_cons rfl (lkeep_cons rfl lkeep_nil)) (keep_cons rfl (keep_cons rfl keep_nil)) rfl ?_ | refine g_keep [2, 7, 9, 10, 11, 12] [4, 13] [4, 13] rfl rfl rfl rfl ?_
                    first | exact g_has ⟨_, rfl, rfl, rfl, ⟨hcx, by rw [lawSp_up (by omega) (by omega)]; refine sp_ext ?_ ?_ <;> simp [upSp] <;> omega, hown⟩⟩ | exact g_has ⟨t, rfl, rfl, rfl, ⟨hcx, by rw [lawSp_end (by omega) (by omega)], hown⟩⟩ | exact g_has ⟨x.sp, rfl, rfl, rfl, ⟨hcx, by rw [lawSp_same (by omega) (by omega)], hown⟩⟩
                  · try simp only [decide_eq_true_eq, decide_eq_false_iff_not, Bool.not_eq_true', Bool.not_eq_false', Bool.not_eq_eq_eq_not, Bool.not_true, Bool.not_false, Bool.and_eq_true, Bool.or_eq_true, Bool.or_eq_false_iff, beq_iff_eq, beq_eq_false_iff_ne, ne_eq, Int.not_lt, Int.not_le, Decidable.not_not] at hc91
                    refine g_skip ?_
                    first | refine g_keep [2, 7, 9, 10, 11, 12] [4, 13] [4, 13] (keep_cons rfl (keep_cons rfl (keep_cons rfl (keep_cons rfl (keep_cons rfl (keep_cons rfl keep_nil)))))) (lkeep_cons rfl (lkeep_cons rfl lkeep_nil)) (keep_cons rfl (keep_cons rfl keep_nil)) rfl ?_ | refine g_keep [2, 7, 9, 10, 11, 12] [4, 13] [4, 13] rfl rfl rfl rfl ?_
                    first | exact g_has ⟨_, rfl, rfl, rfl, ⟨hcx, by rw [lawSp_up (by omega) (by omega)]; refine sp_ext ?_ ?_ <;> simp [upSp] <;> omega, hown⟩⟩ | exact g_has ⟨t, rfl, rfl, rfl, ⟨hcx, by rw [lawSp_end (by omega) (by omega)], hown⟩⟩ | exact g_has ⟨x.sp, rfl, rfl, rfl, ⟨hcx, by rw [lawSp_same (by omega) (by omega)], hown⟩⟩
                · try simp only [decide_eq_true_eq, decide_eq_false_iff_not, Bool.not_eq_true', Bool.not_eq_false', Bool.not_eq_eq_eq_not, Bool.not_true, Bool.not_false, Bool.and_eq_true, Bool.or_eq_true, Bool.or_eq_false_iff, beq_iff_eq, beq_eq_false_iff_ne, ne_eq, Int.not_lt, Int.not_le, Decidable.not_not] at hc81
                  refine g_seq (fun K24 hK24 => ?_)
                  refine g_region ?_
                  refine g_step rfl (s_val (v_move rfl) rfl rfl ?_)
                  refine g_step rfl (s_val (v_eql rfl rfl) rfl rfl ?_)
                  refine g_nil ?_
                  refine g_next hK24 ?_
                  refine g_cond rfl (fun hc98 => ?_) (fun hc98 => ?_)
                  · try simp only [decide_eq_true_eq, decide_eq_false_iff_not, Bool.not_eq_true', Bool.not_eq_false', Bool.not_eq_eq_eq_not, Bool.not_true, Bool.not_false, Bool.and_eq_true, Bool.or_eq_true, Bool.or_eq_false_iff, beq_iff_eq, beq_eq_false_iff_ne, ne_eq, Int.not_lt, Int.not_le, Decidable.not_not] at hc98
                    refine g_region ?_
                    refine g_step rfl (s_val (by first | exact v_loadl_all ty24 rfl rfl rfl rfl rfl | exact v_loadl_part (cs := [_, _]) ty24 rfl rfl rfl rfl rfl rfl) rfl rfl ?_)
                    refine g_step rfl (s_store_all ty24 rfl rfl rfl rfl rfl rfl ?_)
                    refine g_nil ?_
                    first | refine g_keep [2, 7, 9, 10, 11, 12] [4, 13] [4, 13] (keep_cons rfl (keep_cons rfl (keep_cons rfl (keep_cons rfl (keep_cons rfl (keep_cons rfl keep_nil)))))) (lkeep_cons rfl (lkeep_cons rfl lkeep_nil)) (keep_cons rfl (keep_cons rfl keep_nil)) rfl ?_ | refine g_keep [2, 7, 9, 10, 11, 12] [4, 13] [4, 13] rfl rfl rfl rfl ?_
                    first | exact g_has ⟨_, rfl, rfl, rfl, ⟨hcx, by rw [lawSp_up (by omega) (by omega)]; refine sp_ext ?_ ?_ <;> simp [upSp] <;> omega, hown⟩⟩ | exact g_has ⟨t, rfl, rfl, rfl, ⟨hcx, by rw [lawSp_end (by omega) (by omega)], hown⟩⟩ | exact g_has ⟨x.sp, rfl, rfl, rfl, ⟨hcx, by rw [lawSp_same (by omega) (by omega)], hown⟩⟩
                  · try simp only [decide_eq_true_eq, decide_eq_false_iff_not, Bool.not_eq_true', Bool.not_eq_false', Bool.not_eq_eq_eq_not, Bool.not_true, Bool.not_false, Bool.and_eq_true, Bool.or_eq_true, Bool.or_eq_false_iff, beq_iff_eq, beq_eq_false_iff_ne, ne_eq, Int.not_lt, Int.not_le, Decidable.not_not] at hc98
                    refine g_skip ?_
                    first | refine g_keep [2, 7, 9, 10, 11, 12] [4, 13] [4, 13] (keep_cons rfl (keep_cons rfl (keep_cons rfl (keep_cons rfl (keep_cons rfl (keep_cons rfl keep_nil)))))) (lkeep_cons rfl (lkeep_cons rfl lkeep_nil)) (keep_cons rfl (keep_cons rfl keep_nil)) rfl ?_ | refine g_keep [2, 7, 9, 10, 11, 12] [4, 13] [4, 13] rfl rfl rfl rfl ?_
                    first | exact g_has ⟨_, rfl, rfl, rfl, ⟨hcx, by rw [lawSp_up (by omega) (by omega)]; refine sp_ext ?_ ?_ <;> simp [upSp] <;> omega, hown⟩⟩ | exact g_has ⟨t, rfl, rfl, rfl, ⟨hcx, by rw [lawSp_end (by omega) (by omega)], hown⟩⟩ | exact g_has ⟨x.sp, rfl, rfl, rfl, ⟨hcx, by rw [lawSp_same (by omega) (by omega)], hown⟩⟩
              · try simp only [decide_eq_true_eq, decide_eq_false_iff_not, Bool.not_eq_true', Bool.not_eq_false', Bool.not_eq_eq_eq_not, Bool.not_true, Bool.not_false, Bool.and_eq_true, Bool.or_eq_true, Bool.or_eq_false_iff, beq_iff_eq, beq_eq_false_iff_ne, ne_eq, Int.not_lt, Int.not_le, Decidable.not_not] at hg76
                refine g_step_no (j := 4) (t := 76) rfl rfl rfl rfl rfl rfl rfl ?_
                refine g_step_no (j := 4) (t := 76) rfl rfl rfl rfl rfl rfl rfl ?_
                refine g_step_no (j := 4) (t := 76) rfl rfl rfl rfl rfl rfl rfl ?_
                refine g_step_no (j := 4) (t := 76) rfl rfl rfl rfl rfl rfl rfl ?_
                refine g_step rfl (s_val (v_pick_f rfl rfl) rfl rfl ?_)
                refine g_nil ?_
                refine g_next hK21 ?_
                first | refine g_keep [2, 7, 9, 10, 11, 12, 81] [4, 13] [4, 13] (keep_cons rfl (keep_cons rfl (keep_cons rfl (keep_cons rfl (keep_cons rfl (keep_cons rfl (keep_cons rfl keep_nil))))))) (lkeep_cons rfl (lkeep_cons rfl lkeep_nil)) (keep_cons rfl (keep_cons rfl keep_nil)) rfl ?_ | refine g_keep [2, 7, 9, 10, 11, 12, 81] [4, 13] [4, 13] rfl rfl rfl rfl ?_
                refine g_cond rfl (fun h => by cases h) (fun _ => ?_)
                refine g_seq (fun K25 hK25 => ?_)
                refine g_region ?_
                refine g_step rfl (s_val (v_move rfl) rfl rfl ?_)
                refine g_step rfl (s_val (v_eql rfl rfl) rfl rfl ?_)
                refine g_nil ?_
                refine g_next hK25 ?_
                refine g_cond rfl (fun hc98 => ?_) (fun hc98 => ?_)
                · try simp only [decide_eq_true_eq, decide_eq_false_iff_not, Bool.not_eq_true', Bool.not_eq_false', Bool.not_eq_eq_eq_not, Bool.not_true, Bool.not_false, Bool.and_eq_true, Bool.or_eq_true, Bool.or_eq_false_iff, beq_iff_eq, beq_eq_false_iff_ne, ne_eq, Int.not_lt, Int.not_le, Decidable.not_not] at hc98
                  refine g_region ?_
                  refine g_step rfl (s_val (by first | exact v_loadl_all ty24 rfl rfl rfl rfl rfl | exact v_loadl_part (cs := [_, _]) ty24 rfl rfl rfl rfl rfl rfl) rfl rfl ?_)
                  refine g_step rfl (s_store_all ty24 rfl rfl rfl rfl rfl rfl ?_)
                  refine g_nil ?_
                  first | refine g_keep [2, 7, 9, 10, 11, 12] [4, 13] [4, 13] (keep_cons rfl (keep_cons rfl (keep_cons rfl (keep_cons rfl (keep_cons rfl (keep_cons rfl keep_nil)))))) (lkeep_cons rfl (lkeep_cons rfl lkeep_nil)) (keep_cons rfl (keep_cons rfl keep_nil)) rfl ?_ | refine g_keep [2, 7, 9, 10, 11, 12] [4, 13] [4, 13] rfl rfl rfl rfl ?_
                  first | exact g_has ⟨_, rfl, rfl, rfl, ⟨hcx, by rw [lawSp_up (by omega) (by omega)]; refine sp_ext ?_ ?_ <;> simp [upSp] <;> omega, hown⟩⟩ | exact g_has ⟨t, rfl, rfl, rfl, ⟨hcx, by rw [lawSp_end (by omega) (by omega)], hown⟩⟩ | exact g_has ⟨x.sp, rfl, rfl, rfl, ⟨hcx, by rw [lawSp_same (by omega) (by omega)], hown⟩⟩
                · try simp only [decide_eq_true_eq, decide_eq_false_iff_not, Bool.not_eq_true', Bool.not_eq_false', Bool.not_eq_eq_eq_not, Bool.not_true, Bool.not_false, Bool.and_eq_true, Bool.or_eq_true, Bool.or_eq_false_iff, beq_iff_eq, beq_eq_false_iff_ne, ne_eq, Int.not_lt, Int.not_le, Decidable.not_not] at hc98
                  refine g_skip ?_
                  first | refine g_keep [2, 7, 9, 10, 11, 12] [4, 13] [4, 13] (keep_cons rfl (keep_cons rfl (keep_cons rfl (keep_cons rfl (keep_cons rfl (keep_cons rfl keep_nil)))))) (lkeep_cons rfl (lkeep_cons rfl lkeep_nil)) (keep_cons rfl (keep_cons rfl keep_nil)) rfl ?_ | refine g_keep [2, 7, 9, 10, 11, 12] [4, 13] [4, 13] rfl rfl rfl rfl ?_
                  first | exact g_has ⟨_, rfl, rfl, rfl, ⟨hcx, by rw [lawSp_up (by omega) (by omega)]; refine sp_ext ?_ ?_ <;> simp [upSp] <;> omega, hown⟩⟩ | exact g_has ⟨t, rfl, rfl, rfl, ⟨hcx, by rw [lawSp_end (by omega) (by omega)], hown⟩⟩ | exact g_has ⟨x.sp, rfl, rfl, rfl, ⟨hcx, by rw [lawSp_same (by omega) (by omega)], hown⟩⟩
            · skip
              obtain ⟨s2, rfl, rfl, rfl, hcx, hs2, hown⟩ := hI
              refine g_cut (fun env L B G => ∃ (c2 : Int), env = [(2, .int .i64 w), (7, .imm ((planL l t w).map encMv)), (9, av), (10, .int .i64 c2), (11, .int .i64 ((k : Int) + 1)), (12, .int .i64 (i : Int))] ∧ L = [(4, 4, 0), (13, 13, 0)] ∧ B = [(4, encSp t), (13, (encSp s2))] ∧ c2 = ((doneL t w l k ++ (((nowS t w l k).take (i + 1)).filterMap (lawM t w ((k : Int) + 1)))).length : Nat) ∧ Own w0.heap.size 7 H av ((putAll cnt (lawF t w ((k : Int) + 1)) i (nowS t w l k)).map encR) G) ?_ (fun env L B G hI => ?_)
              · skip
                refine g_seq (fun K26 hK26 => ?_)
                refine g_draw (n := 20) (fun j => !([] : List Nat).contains j) rfl rfl ?_
                refine m_takel 0 rfl rfl (by kernel_rfl) (by kernel_rfl) (by kernel_rfl) (fun _ _ _ _ h => h) (vl_fieldAddr ty24 fo24_0 ty3 rfl) rfl rfl ?_
                refine m_take 1 true rfl rfl (by kernel_rfl) (by kernel_rfl) (by kernel_rfl) (fun _ _ _ _ h => h) (v_loadl ty3 rfl rfl rfl rfl) rfl rfl ?_
                refine m_take 2 false rfl rfl (by kernel_rfl) (by kernel_rfl) (by kernel_rfl) (fun _ _ _ _ h => h) (v_move rfl) rfl rfl ?_
                refine m_take 3 false rfl rfl (by kernel_rfl) (by kernel_rfl) (by kernel_rfl) (fun _ _ _ _ h => h) (v_move rfl) rfl rfl ?_
                refine m_take 4 false rfl rfl (by kernel_rfl) (by kernel_rfl) (by kernel_rfl) (fun _ _ _ _ h => h) (v_indexAddr ty22 ty32 rfl rfl hown.view (by first | rfl | exact (rfl : (0 : Int) = ((0 : Nat) : Int)) | exact (Int.toNat_of_nonneg (by omega)).symm) (map_get hpx) rfl) rfl rfl ?_
                refine m_take 5 false rfl rfl (by kernel_rfl) (by kernel_rfl) (by kernel_rfl) (fun _ _ _ _ h => h) (by first | exact v_fieldAddr ty32 fo32_3 ty24 rfl | exact v_fieldAddr_box ty32 fo32_3 ty24 rfl) rfl rfl ?_
                refine m_take 6 false rfl rfl (by kernel_rfl) (by kernel_rfl) (by kernel_rfl) (fun _ _ _ _ h => h) (by first | exact v_fieldAddr ty24 fo24_0 ty3 rfl | exact v_fieldAddr_box ty24 fo24_0 ty3 rfl) rfl rfl ?_
                refine m_take 7 true rfl rfl (by kernel_rfl) (by kernel_rfl) (by kernel_rfl) (fun _ _ _ _ h => h) (by first | exact v_load ty3 rfl rfl hown.view (map_get hpx) rfl | exact v_load_box ty3 rfl rfl (by assumption) rfl) rfl rfl ?_
                refine m_take 8 false rfl rfl (by kernel_rfl) (by kernel_rfl) (by kernel_rfl) (fun _ _ _ _ h => h) (v_neq rfl rfl) rfl rfl ?_
                refine m_take 9 false rfl rfl (by kernel_rfl) (by kernel_rfl) (by kernel_rfl) (fun _ _ _ _ h => h) (v_move rfl) rfl rfl ?_
                refine m_split 109 rfl (fun hg109 => ?_) (fun hg109 => ?_)
                · try simp only [decide_eq_true_eq, decide_eq_false_iff_not, Bool.not_eq_true', Bool.not_eq_false', Bool.not_eq_eq_eq_not, Bool.not_true, Bool.not_false, Bool.and_eq_true, Bool.or_eq_true, Bool.or_eq_false_iff, beq_iff_eq, beq_eq_false_iff_ne, ne_eq, Int.not_lt, Int.not_le, Decidable.not_not] at hg109
                  refine m_take_no (j := 9) (t := 109) 10 rfl rfl rfl rfl rfl rfl (by kernel_rfl) (by kernel_rfl) (by kernel_rfl) (fun _ _ _ _ h => h) rfl rfl ?_
                  refine m_take_no (j := 9) (t := 109) 11 rfl rfl rfl rfl rfl rfl (by kernel_rfl) (by kernel_rfl) (by kernel_rfl) (fun _ _ _ _ h => h) rfl rfl ?_
                  refine m_take_no (j := 9) (t := 109) 12 rfl rfl rfl rfl rfl rfl (by kernel_rfl) (by kernel_rfl) (by kernel_rfl) (fun _ _ _ _ h => h) rfl rfl ?_
                  refine m_take_no (j := 9) (t := 109) 13 rfl rfl rfl rfl rfl rfl (by kernel_rfl) (by kernel_rfl) (by kernel_rfl) (fun _ _ _ _ h => h) rfl rfl ?_
                  refine m_take_no (j := 9) (t := 109) 14 rfl rfl rfl rfl rfl rfl (by kernel_rfl) (by kernel_rfl) (by kernel_rfl) (fun _ _ _ _ h => h) rfl rfl ?_
                  refine m_take_no (j := 9) (t := 109) 15 rfl rfl rfl rfl rfl rfl (by kernel_rfl) (by kernel_rfl) (by kernel_rfl) (fun _ _ _ _ h => h) rfl rfl ?_
                  refine m_take_no (j := 9) (t := 109) 16 rfl rfl rfl rfl rfl rfl (by kernel_rfl) (by kernel_rfl) (by kernel_rfl) (fun _ _ _ _ h => h) rfl rfl ?_
                  refine m_take_no (j := 9) (t := 109) 17 rfl rfl rfl rfl rfl rfl (by kernel_rfl) (by kernel_rfl) (by kernel_rfl) (fun _ _ _ _ h => h) rfl rfl ?_
                  refine m_take_no (j := 9) (t := 109) 18 rfl rfl rfl rfl rfl rfl (by kernel_rfl) (by kernel_rfl) (by kernel_rfl) (fun _ _ _ _ h => h) rfl rfl ?_
                  refine m_take 19 false rfl rfl (by kernel_rfl) (by kernel_rfl) (by kernel_rfl) (fun _ _ _ _ h => h) (v_pick_t rfl rfl) rfl rfl ?_
                  refine m_done (by kernel_rfl) ?_
                  refine g_next hK26 ?_
                  first | refine g_keep [2, 7, 9, 10, 11, 12, 119] [4, 13] [4, 13] (keep_cons rfl (keep_cons rfl (keep_cons rfl (keep_cons rfl (keep_cons rfl (keep_cons rfl (keep_cons rfl keep_nil))))))) (lkeep_cons rfl (lkeep_cons rfl lkeep_nil)) (keep_cons rfl (keep_cons rfl keep_nil)) rfl ?_ | refine g_keep [2, 7, 9, 10, 11, 12, 119] [4, 13] [4, 13] rfl rfl rfl rfl ?_
                  refine g_cond rfl (fun _ => ?_) (fun h => by cases h)
                  refine g_seq (fun K27 hK27 => ?_)
                  refine g_seq (fun K28 hK28 => ?_)
                  refine g_draw (n := 39) (fun j => !([] : List Nat).contains j) rfl rfl ?_
                  have hne : lawSp t w ((k : Int) + 1) x.sp ≠ x.sp := by rw [← hs2]; intro e; first | exact absurd (congrArg Sp.lo e) (by omega) | exact absurd (congrArg Sp.hi e) (by omega)
                  have hlm := lawM_some hcx hne
                  have hga := done_at hk3 hx hlm
                  rw [← hpd] at hga
                  obtain ⟨hgb, _⟩ := List.getElem?_eq_some_iff.1 hga
                  refine m_take 0 false rfl rfl (by kernel_rfl) (by kernel_rfl) (by kernel_rfl) (fun _ _ _ _ h => h) (v_move rfl) rfl rfl ?_
                  refine m_take 1 false rfl rfl (by kernel_rfl) (by kernel_rfl) (by kernel_rfl) (fun _ _ _ _ h => h) (v_move rfl) rfl rfl ?_
                  refine m_take 2 false rfl rfl (by kernel_rfl) (by kernel_rfl) (by kernel_rfl) (fun _ _ _ _ h => h) (v_len ty35 rfl (by first | rfl | assumption) (by first | exact List.length_map .. | rfl)) rfl rfl ?_
                  refine m_take 3 false rfl rfl (by kernel_rfl) (by kernel_rfl) (by kernel_rfl) (fun _ _ _ _ h => h) (v_geq rfl rfl) rfl rfl ?_
                  refine m_take 4 false rfl rfl (by kernel_rfl) (by kernel_rfl) (by kernel_rfl) (fun _ _ _ _ h => h) (v_move rfl) rfl rfl ?_
                  refine m_split 124 rfl (fun hg124 => ?_) (fun hg124 => ?_)
                  · exfalso; (try simp only [decide_eq_true_eq, decide_eq_false_iff_not, Bool.not_eq_true', Bool.not_eq_false', Bool.not_eq_eq_eq_not, Bool.not_true, Bool.not_false, Bool.and_eq_true, Bool.or_eq_true, Bool.or_eq_false_iff, beq_iff_eq, beq_eq_false_iff_ne, ne_eq, Int.not_lt, Int.not_le, Decidable.not_not] at hg124); omega
                  · try simp only [decide_eq_true_eq, decide_eq_false_iff_not, Bool.not_eq_true', Bool.not_eq_false', Bool.not_eq_eq_eq_not, Bool.not_true, Bool.not_false, Bool.and_eq_true, Bool.or_eq_true, Bool.or_eq_false_iff, beq_iff_eq, beq_eq_false_iff_ne, ne_eq, Int.not_lt, Int.not_le, Decidable.not_not] at hg124
                    refine m_take_yes (j := 4) (t := 124) 5 false rfl rfl rfl rfl rfl (by kernel_rfl) (by kernel_rfl) (by kernel_rfl) (fun _ _ _ _ h => h) (v_move rfl) rfl rfl ?_
                    refine m_take_yes (j := 4) (t := 124) 6 false rfl rfl rfl rfl rfl (by kernel_rfl) (by kernel_rfl) (by kernel_rfl) (fun _ _ _ _ h => h) (v_move rfl) rfl rfl ?_
                    refine m_take_yes (j := 4) (t := 124) 7 false rfl rfl rfl rfl rfl (by kernel_rfl) (by kernel_rfl) (by kernel_rfl) (fun _ _ _ _ h => h) (v_indexAddr ty35 ty42 rfl rfl (by first | rfl | assumption) hc (map_get hga) rfl) rfl rfl ?_
                    refine m_take_yes (j := 4) (t := 124) 8 false rfl rfl rfl rfl rfl (by kernel_rfl) (by kernel_rfl) (by kernel_rfl) (fun _ _ _ _ h => h) (by first | exact v_fieldAddr ty42 fo42_0 ty3 rfl | exact v_fieldAddr_box ty42 fo42_0 ty3 rfl) rfl rfl ?_
                    refine m_take_yes (j := 4) (t := 124) 9 true rfl rfl rfl rfl rfl (by kernel_rfl) (by kernel_rfl) (by kernel_rfl) (fun _ _ _ _ h => h) (by first | exact v_load ty3 rfl rfl (by first | rfl | assumption) (map_get hga) rfl | exact v_load_box ty3 rfl rfl (by assumption) rfl) rfl rfl ?_
                    refine m_take_yes (j := 4) (t := 124) 10 false rfl rfl rfl rfl rfl (by kernel_rfl) (by kernel_rfl) (by kernel_rfl) (fun _ _ _ _ h => h) (v_move rfl) rfl rfl ?_
                    refine m_take_yes (j := 4) (t := 124) 11 false rfl rfl rfl rfl rfl (by kernel_rfl) (by kernel_rfl) (by kernel_rfl) (fun _ _ _ _ h => h) (v_move rfl) rfl rfl ?_
                    refine m_take_yes (j := 4) (t := 124) 12 false rfl rfl rfl rfl rfl (by kernel_rfl) (by kernel_rfl) (by kernel_rfl) (fun _ _ _ _ h => h) (v_indexAddr ty22 ty32 rfl rfl hown.view (by first | rfl | exact (rfl : (0 : Int) = ((0 : Nat) : Int)) | exact (Int.toNat_of_nonneg (by omega)).symm) (map_get hpx) rfl) rfl rfl ?_
                    refine m_take_yes (j := 4) (t := 124) 13 false rfl rfl rfl rfl rfl (by kernel_rfl) (by kernel_rfl) (by kernel_rfl) (fun _ _ _ _ h => h) (by first | exact v_fieldAddr ty32 fo32_0 ty3 rfl | exact v_fieldAddr_box ty32 fo32_0 ty3 rfl) rfl rfl ?_
                    refine m_take_yes (j := 4) (t := 124) 14 true rfl rfl rfl rfl rfl (by kernel_rfl) (by kernel_rfl) (by kernel_rfl) (fun _ _ _ _ h => h) (by first | exact v_load ty3 rfl rfl hown.view (map_get hpx) rfl | exact v_load_box ty3 rfl rfl (by assumption) rfl) rfl rfl ?_
                    refine m_take_yes (j := 4) (t := 124) 15 false rfl rfl rfl rfl rfl (by kernel_rfl) (by kernel_rfl) (by kernel_rfl) (fun _ _ _ _ h => h) (v_neq rfl rfl) rfl rfl ?_
                    refine m_take 16 false rfl rfl (by kernel_rfl) (by kernel_rfl) (by kernel_rfl) (fun _ _ _ _ h => h) (v_pick_f rfl rfl) rfl rfl ?_
                    refine m_take 17 false rfl rfl (by kernel_rfl) (by kernel_rfl) (by kernel_rfl) (fun _ _ _ _ h => h) (v_move rfl) rfl rfl ?_
                    refine m_split 137 rfl (fun hg137 => ?_) (fun hg137 => ?_)
                    · exfalso; (try simp only [decide_eq_true_eq, decide_eq_false_iff_not, Bool.not_eq_true', Bool.not_eq_false', Bool.not_eq_eq_eq_not, Bool.not_true, Bool.not_false, Bool.and_eq_true, Bool.or_eq_true, Bool.or_eq_false_iff, beq_iff_eq, beq_eq_false_iff_ne, ne_eq, Int.not_lt, Int.not_le, Decidable.not_not] at hg137); first | exact hg137 rfl | (simp at hg137; done)
                    · try simp only [decide_eq_true_eq, decide_eq_false_iff_not, Bool.not_eq_true', Bool.not_eq_false', Bool.not_eq_eq_eq_not, Bool.not_true, Bool.not_false, Bool.and_eq_true, Bool.or_eq_true, Bool.or_eq_false_iff, beq_iff_eq, beq_eq_false_iff_ne, ne_eq, Int.not_lt, Int.not_le, Decidable.not_not] at hg137
                      refine m_take_yes (j := 17) (t := 137) 18 false rfl rfl rfl rfl rfl (by kernel_rfl) (by kernel_rfl) (by kernel_rfl) (fun _ _ _ _ h => h) (v_move rfl) rfl rfl ?_
                      refine m_take_yes (j := 17) (t := 137) 19 false rfl rfl rfl rfl rfl (by kernel_rfl) (by kernel_rfl) (by kernel_rfl) (fun _ _ _ _ h => h) (v_move rfl) rfl rfl ?_
                      refine m_take_yes (j := 17) (t := 137) 20 false rfl rfl rfl rfl rfl (by kernel_rfl) (by kernel_rfl) (by kernel_rfl) (fun _ _ _ _ h => h) (v_indexAddr ty35 ty42 rfl rfl (by first | rfl | assumption) hc (map_get hga) rfl) rfl rfl ?_
                      refine m_take_yes (j := 17) (t := 137) 21 false rfl rfl rfl rfl rfl (by kernel_rfl) (by kernel_rfl) (by kernel_rfl) (fun _ _ _ _ h => h) (by first | exact v_fieldAddr ty42 fo42_1 ty24 rfl | exact v_fieldAddr_box ty42 fo42_1 ty24 rfl) rfl rfl ?_
                      refine m_take_yes (j := 17) (t := 137) 22 false rfl rfl rfl rfl rfl (by kernel_rfl) (by kernel_rfl) (by kernel_rfl) (fun _ _ _ _ h => h) (by first | exact v_fieldAddr ty24 fo24_0 ty3 rfl | exact v_fieldAddr_box ty24 fo24_0 ty3 rfl) rfl rfl ?_
                      refine m_take_yes (j := 17) (t := 137) 23 true rfl rfl rfl rfl rfl (by kernel_rfl) (by kernel_rfl) (by kernel_rfl) (fun _ _ _ _ h => h) (by first | exact v_load ty3 rfl rfl (by first | rfl | assumption) (map_get hga) rfl | exact v_load_box ty3 rfl rfl (by assumption) rfl) rfl rfl ?_
                      refine m_takel_yes (j := 17) (t := 137) 24 rfl rfl rfl rfl rfl (by kernel_rfl) (by kernel_rfl) (by kernel_rfl) (fun _ _ _ _ h => h) (vl_fieldAddr ty24 fo24_0 ty3 rfl) rfl rfl ?_
                      refine m_take_yes (j := 17) (t := 137) 25 true rfl rfl rfl rfl rfl (by kernel_rfl) (by kernel_rfl) (by kernel_rfl) (fun _ _ _ _ h => h) (v_loadl ty3 rfl rfl rfl rfl) rfl rfl ?_
                      refine m_take_yes (j := 17) (t := 137) 26 false rfl rfl rfl rfl rfl (by kernel_rfl) (by kernel_rfl) (by kernel_rfl) (fun _ _ _ _ h => h) (v_neq rfl rfl) rfl rfl ?_
                      refine m_take 27 false rfl rfl (by kernel_rfl) (by kernel_rfl) (by kernel_rfl) (fun _ _ _ _ h => h) (v_pick_f rfl rfl) rfl rfl ?_
                      refine m_take 28 false rfl rfl (by kernel_rfl) (by kernel_rfl) (by kernel_rfl) (fun _ _ _ _ h => h) (v_move rfl) rfl rfl ?_
                      refine m_split 148 rfl (fun hg148 => ?_) (fun hg148 => ?_)
                      · exfalso; (try simp only [decide_eq_true_eq, decide_eq_false_iff_not, Bool.not_eq_true', Bool.not_eq_false', Bool.not_eq_eq_eq_not, Bool.not_true, Bool.not_false, Bool.and_eq_true, Bool.or_eq_true, Bool.or_eq_false_iff, beq_iff_eq, beq_eq_false_iff_ne, ne_eq, Int.not_lt, Int.not_le, Decidable.not_not] at hg148); first | exact hg148 (by rw [hs2]) | (simp [hs2] at hg148; done)
                      · try simp only [decide_eq_true_eq, decide_eq_false_iff_not, Bool.not_eq_true', Bool.not_eq_false', Bool.not_eq_eq_eq_not, Bool.not_true, Bool.not_false, Bool.and_eq_true, Bool.or_eq_true, Bool.or_eq_false_iff, beq_iff_eq, beq_eq_false_iff_ne, ne_eq, Int.not_lt, Int.not_le, Decidable.not_not] at hg148
                        refine m_take_yes (j := 28) (t := 148) 29 false rfl rfl rfl rfl rfl (by kernel_rfl) (by kernel_rfl) (by kernel_rfl) (fun _ _ _ _ h => h) (v_move rfl) rfl rfl ?_
                        refine m_take_yes (j := 28) (t := 148) 30 false rfl rfl rfl rfl rfl (by kernel_rfl) (by kernel_rfl) (by kernel_rfl) (fun _ _ _ _ h => h) (v_move rfl) rfl rfl ?_
                        refine m_take_yes (j := 28) (t := 148) 31 false rfl rfl rfl rfl rfl (by kernel_rfl) (by kernel_rfl) (by kernel_rfl) (fun _ _ _ _ h => h) (v_indexAddr ty35 ty42 rfl rfl (by first | rfl | assumption) hc (map_get hga) rfl) rfl rfl ?_
                        refine m_take_yes (j := 28) (t := 148) 32 false rfl rfl rfl rfl rfl (by kernel_rfl) (by kernel_rfl) (by kernel_rfl) (fun _ _ _ _ h => h) (by first | exact v_fieldAddr ty42 fo42_1 ty24 rfl | exact v_fieldAddr_box ty42 fo42_1 ty24 rfl) rfl rfl ?_
                        refine m_take_yes (j := 28) (t := 148) 33 false rfl rfl rfl rfl rfl (by kernel_rfl) (by kernel_rfl) (by kernel_rfl) (fun _ _ _ _ h => h) (by first | exact v_fieldAddr ty24 fo24_1 ty3 rfl | exact v_fieldAddr_box ty24 fo24_1 ty3 rfl) rfl rfl ?_
                        refine m_take_yes (j := 28) (t := 148) 34 true rfl rfl rfl rfl rfl (by kernel_rfl) (by kernel_rfl) (by kernel_rfl) (fun _ _ _ _ h => h) (by first | exact v_load ty3 rfl rfl (by first | rfl | assumption) (map_get hga) rfl | exact v_load_box ty3 rfl rfl (by assumption) rfl) rfl rfl ?_
                        refine m_takel_yes (j := 28) (t := 148) 35 rfl rfl rfl rfl rfl (by kernel_rfl) (by kernel_rfl) (by kernel_rfl) (fun _ _ _ _ h => h) (vl_fieldAddr ty24 fo24_1 ty3 rfl) rfl rfl ?_
                        refine m_take_yes (j := 28) (t := 148) 36 true rfl rfl rfl rfl rfl (by kernel_rfl) (by kernel_rfl) (by kernel_rfl) (fun _ _ _ _ h => h) (v_loadl ty3 rfl rfl rfl rfl) rfl rfl ?_
                        refine m_take_yes (j := 28) (t := 148) 37 false rfl rfl rfl rfl rfl (by kernel_rfl) (by kernel_rfl) (by kernel_rfl) (fun _ _ _ _ h => h) (v_neq rfl rfl) rfl rfl ?_
                        refine m_take 38 false rfl rfl (by kernel_rfl) (by kernel_rfl) (by kernel_rfl) (fun _ _ _ _ h => h) (v_pick_f rfl rfl) rfl rfl ?_
                        refine m_done (by kernel_rfl) ?_
                        refine g_next hK28 ?_
                        first | refine g_keep [2, 7, 9, 10, 11, 12, 158] [4, 13] [4, 13] (keep_cons rfl (keep_cons rfl (keep_cons rfl (keep_cons rfl (keep_cons rfl (keep_cons rfl (keep_cons rfl keep_nil))))))) (lkeep_cons rfl (lkeep_cons rfl lkeep_nil)) (keep_cons rfl (keep_cons rfl keep_nil)) rfl ?_ | refine g_keep [2, 7, 9, 10, 11, 12, 158] [4, 13] [4, 13] rfl rfl rfl rfl ?_
                        refine g_cond rfl (fun hc158 => ?_) (fun hc158 => ?_)
                        · exfalso; (try simp only [decide_eq_true_eq, decide_eq_false_iff_not, Bool.not_eq_true', Bool.not_eq_false', Bool.not_eq_eq_eq_not, Bool.not_true, Bool.not_false, Bool.and_eq_true, Bool.or_eq_true, Bool.or_eq_false_iff, beq_iff_eq, beq_eq_false_iff_ne, ne_eq, Int.not_lt, Int.not_le, Decidable.not_not] at hc158); first | exact hc158 (by rw [hs2]) | (simp [hs2] at hc158; done)
                        · try simp only [decide_eq_true_eq, decide_eq_false_iff_not, Bool.not_eq_true', Bool.not_eq_false', Bool.not_eq_eq_eq_not, Bool.not_true, Bool.not_false, Bool.and_eq_true, Bool.or_eq_true, Bool.or_eq_false_iff, beq_iff_eq, beq_eq_false_iff_ne, ne_eq, Int.not_lt, Int.not_le, Decidable.not_not] at hc158
                          refine g_skip ?_
                          refine g_next hK27 ?_
                          refine g_region ?_
                          refine g_step rfl (s_val (v_move rfl) rfl rfl ?_)
                          refine g_step rfl (s_val (v_add rfl rfl (by omega)) rfl rfl ?_)
                          refine g_step rfl (s_val (v_assign rfl) rfl rfl ?_)
                          refine g_nil ?_
                          first | refine g_keep [2, 7, 9, 10, 11, 12] [4, 13] [4, 13] (keep_cons rfl (keep_cons rfl (keep_cons rfl (keep_cons rfl (keep_cons rfl (keep_cons rfl keep_nil)))))) (lkeep_cons rfl (lkeep_cons rfl lkeep_nil)) (keep_cons rfl (keep_cons rfl keep_nil)) rfl ?_ | refine g_keep [2, 7, 9, 10, 11, 12] [4, 13] [4, 13] rfl rfl rfl rfl ?_
                          first | exact g_has ⟨c + 1, rfl, rfl, rfl, ⟨by rw [filterMap_snoc hx, hlm, ← List.append_assoc, List.length_append, hc]; rfl, hown⟩⟩ | exact g_has ⟨c, rfl, rfl, rfl, ⟨by rw [filterMap_snoc hx, lawM_none (.inr (by rw [← hs2]; refine sp_ext ?_ ?_ <;> omega)), Option.toList_none, List.append_nil]; exact hc, hown⟩⟩
                · try simp only [decide_eq_true_eq, decide_eq_false_iff_not, Bool.not_eq_true', Bool.not_eq_false', Bool.not_eq_eq_eq_not, Bool.not_true, Bool.not_false, Bool.and_eq_true, Bool.or_eq_true, Bool.or_eq_false_iff, beq_iff_eq, beq_eq_false_iff_ne, ne_eq, Int.not_lt, Int.not_le, Decidable.not_not] at hg109
                  refine m_takel_yes (j := 9) (t := 109) 10 rfl rfl rfl rfl rfl (by kernel_rfl) (by kernel_rfl) (by kernel_rfl) (fun _ _ _ _ h => h) (vl_fieldAddr ty24 fo24_1 ty3 rfl) rfl rfl ?_
                  refine m_take_yes (j := 9) (t := 109) 11 true rfl rfl rfl rfl rfl (by kernel_rfl) (by kernel_rfl) (by kernel_rfl) (fun _ _ _ _ h => h) (v_loadl ty3 rfl rfl rfl rfl) rfl rfl ?_
                  refine m_take_yes (j := 9) (t := 109) 12 false rfl rfl rfl rfl rfl (by kernel_rfl) (by kernel_rfl) (by kernel_rfl) (fun _ _ _ _ h => h) (v_move rfl) rfl rfl ?_
                  refine m_take_yes (j := 9) (t := 109) 13 false rfl rfl rfl rfl rfl (by kernel_rfl) (by kernel_rfl) (by kernel_rfl) (fun _ _ _ _ h => h) (v_move rfl) rfl rfl ?_
                  refine m_take_yes (j := 9) (t := 109) 14 false rfl rfl rfl rfl rfl (by kernel_rfl) (by kernel_rfl) (by kernel_rfl) (fun _ _ _ _ h => h) (v_indexAddr ty22 ty32 rfl rfl hown.view (by first | rfl | exact (rfl : (0 : Int) = ((0 : Nat) : Int)) | exact (Int.toNat_of_nonneg (by omega)).symm) (map_get hpx) rfl) rfl rfl ?_
                  refine m_take_yes (j := 9) (t := 109) 15 false rfl rfl rfl rfl rfl (by kernel_rfl) (by kernel_rfl) (by kernel_rfl) (fun _ _ _ _ h => h) (by first | exact v_fieldAddr ty32 fo32_3 ty24 rfl | exact v_fieldAddr_box ty32 fo32_3 ty24 rfl) rfl rfl ?_
                  refine m_take_yes (j := 9) (t := 109) 16 false rfl rfl rfl rfl rfl (by kernel_rfl) (by kernel_rfl) (by kernel_rfl) (fun _ _ _ _ h => h) (by first | exact v_fieldAddr ty24 fo24_1 ty3 rfl | exact v_fieldAddr_box ty24 fo24_1 ty3 rfl) rfl rfl ?_
                  refine m_take_yes (j := 9) (t := 109) 17 true rfl rfl rfl rfl rfl (by kernel_rfl) (by kernel_rfl) (by kernel_rfl) (fun _ _ _ _ h => h) (by first | exact v_load ty3 rfl rfl hown.view (map_get hpx) rfl | exact v_load_box ty3 rfl rfl (by assumption) rfl) rfl rfl ?_
                  refine m_take_yes (j := 9) (t := 109) 18 false rfl rfl rfl rfl rfl (by kernel_rfl) (by kernel_rfl) (by kernel_rfl) (fun _ _ _ _ h => h) (v_neq rfl rfl) rfl rfl ?_
                  refine m_take 19 false rfl rfl (by kernel_rfl) (by kernel_rfl) (by kernel_rfl) (fun _ _ _ _ h => h) (v_pick_f rfl rfl) rfl rfl ?_
                  refine m_done (by kernel_rfl) ?_
                  refine g_next hK26 ?_
                  refine g_cond rfl (fun hc119 => ?_) (fun hc119 => ?_)
                  · try simp only [decide_eq_true_eq, decide_eq_false_iff_not, Bool.not_eq_true', Bool.not_eq_false', Bool.not_eq_eq_eq_not, Bool.not_true, Bool.not_false, Bool.and_eq_true, Bool.or_eq_true, Bool.or_eq_false_iff, beq_iff_eq, beq_eq_false_iff_ne, ne_eq, Int.not_lt, Int.not_le, Decidable.not_not] at hc119
                    skip
                    refine g_seq (fun K29 hK29 => ?_)
                    refine g_seq (fun K30 hK30 => ?_)
                    refine g_draw (n := 39) (fun j => !([] : List Nat).contains j) rfl rfl ?_
                    have hne : lawSp t w ((k : Int) + 1) x.sp ≠ x.sp := by rw [← hs2]; intro e; first | exact absurd (congrArg Sp.lo e) (by omega) | exact absurd (congrArg Sp.hi e) (by omega)
                    have hlm := lawM_some hcx hne
                    have hga := done_at hk3 hx hlm
                    rw [← hpd] at hga
                    obtain ⟨hgb, _⟩ := List.getElem?_eq_some_iff.1 hga
                    refine m_take 0 false rfl rfl (by kernel_rfl) (by kernel_rfl) (by kernel_rfl) (fun _ _ _ _ h => h) (v_move rfl) rfl rfl ?_
                    refine m_take 1 false rfl rfl (by kernel_rfl) (by kernel_rfl) (by kernel_rfl) (fun _ _ _ _ h => h) (v_move rfl) rfl rfl ?_
                    refine m_take 2 false rfl rfl (by kernel_rfl) (by kernel_rfl) (by kernel_rfl) (fun _ _ _ _ h => h) (v_len ty35 rfl (by first | rfl | assumption) (by first | exact List.length_map .. | rfl)) rfl rfl ?_
                    refine m_take 3 false rfl rfl (by kernel_rfl) (by kernel_rfl) (by kernel_rfl) (fun _ _ _ _ h => h) (v_geq rfl rfl) rfl rfl ?_
                    refine m_take 4 false rfl rfl (by kernel_rfl) (by kernel_rfl) (by kernel_rfl) (fun _ _ _ _ h => h) (v_move rfl) rfl rfl ?_
                    refine m_split 124 rfl (fun hg124 => ?_) (fun hg124 => ?_)
                    · exfalso; (try simp only [decide_eq_true_eq, decide_eq_false_iff_not, Bool.not_eq_true', Bool.not_eq_false', Bool.not_eq_eq_eq_not, Bool.not_true, Bool.not_false, Bool.and_eq_true, Bool.or_eq_true, Bool.or_eq_false_iff, beq_iff_eq, beq_eq_false_iff_ne, ne_eq, Int.not_lt, Int.not_le, Decidable.not_not] at hg124); omega
                    · try simp only [decide_eq_true_eq, decide_eq_false_iff_not, Bool.not_eq_true', Bool.not_eq_false', Bool.not_eq_eq_eq_not, Bool.not_true, Bool.not_false, Bool.and_eq_true, Bool.or_eq_true, Bool.or_eq_false_iff, beq_iff_eq, beq_eq_false_iff_ne, ne_eq, Int.not_lt, Int.not_le, Decidable.not_not] at hg124
                      refine m_take_yes (j := 4) (t := 124) 5 false rfl rfl rfl rfl rfl (by kernel_rfl) (by kernel_rfl) (by kernel_rfl) (fun _ _ _ _ h => h) (v_move rfl) rfl rfl ?_
                      refine m_take_yes (j := 4) (t := 124) 6 false rfl rfl rfl rfl rfl (by kernel_rfl) (by kernel_rfl) (by kernel_rfl) (fun _ _ _ _ h => h) (v_move rfl) rfl rfl ?_
                      refine m_take_yes (j := 4) (t := 124) 7 false rfl rfl rfl rfl rfl (by kernel_rfl) (by kernel_rfl) (by kernel_rfl) (fun _ _ _ _ h => h) (v_indexAddr ty35 ty42 rfl rfl (by first | rfl | assumption) hc (map_get hga) rfl) rfl rfl ?_
                      refine m_take_yes (j := 4) (t := 124) 8 false rfl rfl rfl rfl rfl (by kernel_rfl) (by kernel_rfl) (by kernel_rfl) (fun _ _ _ _ h => h) (by first | exact v_fieldAddr ty42 fo42_0 ty3 rfl | exact v_fieldAddr_box ty42 fo42_0 ty3 rfl) rfl rfl ?_
                      refine m_take_yes (j := 4) (t := 124) 9 true rfl rfl rfl rfl rfl (by kernel_rfl) (by kernel_rfl) (by kernel_rfl) (fun _ _ _ _ h => h) (by first | exact v_load ty3 rfl rfl (by first | rfl | assumption) (map_get hga) rfl | exact v_load_box ty3 rfl rfl (by assumption) rfl) rfl rfl ?_
                      refine m_take_yes (j := 4) (t := 124) 10 false rfl rfl rfl rfl rfl (by kernel_rfl) (by kernel_rfl) (by kernel_rfl) (fun _ _ _ _ h => h) (v_move rfl) rfl rfl ?_
                      refine m_take_yes (j := 4) (t := 124) 11 false rfl rfl rfl rfl rfl (by kernel_rfl) (by kernel_rfl) (by kernel_rfl) (fun _ _ _ _ h => h) (v_move rfl) rfl rfl ?_
                      refine m_take_yes (j := 4) (t := 124) 12 false rfl rfl rfl rfl rfl (by kernel_rfl) (by kernel_rfl) (by kernel_rfl) (fun _ _ _ _ h => h) (v_indexAddr ty22 ty32 rfl rfl hown.view (by first | rfl | exact (rfl : (0 : Int) = ((0 : Nat) : Int)) | exact (Int.toNat_of_nonneg (by omega)).symm) (map_get hpx) rfl) rfl rfl ?_
                      refine m_take_yes (j := 4) (t := 124) 13 false rfl rfl rfl rfl rfl (by kernel_rfl) (by kernel_rfl) (by kernel_rfl) (fun _ _ _ _ h => h) (by first | exact v_fieldAddr ty32 fo32_0 ty3 rfl | exact v_fieldAddr_box ty32 fo32_0 ty3 rfl) rfl rfl ?_
                      refine m_take_yes (j := 4) (t := 124) 14 true rfl rfl rfl rfl rfl (by kernel_rfl) (by kernel_rfl) (by kernel_rfl) (fun _ _ _ _ h => h) (by first | exact v_load ty3 rfl rfl hown.view (map_get hpx) rfl | exact v_load_box ty3 rfl rfl (by assumption) rfl) rfl rfl ?_
                      refine m_take_yes (j := 4) (t := 124) 15 false rfl rfl rfl rfl rfl (by kernel_rfl) (by kernel_rfl) (by kernel_rfl) (fun _ _ _ _ h => h) (v_neq rfl rfl) rfl rfl ?_
                      refine m_take 16 false rfl rfl (by kernel_rfl) (by kernel_rfl) (by kernel_rfl) (fun _ _ _ _ h => h) (v_pick_f rfl rfl) rfl rfl ?_
                      refine m_take 17 false rfl rfl (by kernel_rfl) (by kernel_rfl) (by kernel_rfl) (fun _ _ _ _ h => h) (v_move rfl) rfl rfl ?_
                      refine m_split 137 rfl (fun hg137 => ?_) (fun hg137 => ?_)
                      · exfalso; (try simp only [decide_eq_true_eq, decide_eq_false_iff_not, Bool.not_eq_true', Bool.not_eq_false', Bool.not_eq_eq_eq_not, Bool.not_true, Bool.not_false, Bool.and_eq_true, Bool.or_eq_true, Bool.or_eq_false_iff, beq_iff_eq, beq_eq_false_iff_ne, ne_eq, Int.not_lt, Int.not_le, Decidable.not_not] at hg137); first | exact hg137 rfl | (simp at hg137; done)
                      · try simp only [decide_eq_true_eq, decide_eq_false_iff_not, Bool.not_eq_true', Bool.not_eq_false', Bool.not_eq_eq_eq_not, Bool.not_true, Bool.not_false, Bool.and_eq_true, Bool.or_eq_true, Bool.or_eq_false_iff, beq_iff_eq, beq_eq_false_iff_ne, ne_eq, Int.not_lt, Int.not_le, Decidable.not_not] at hg137
                        refine m_take_yes (j := 17) (t := 137) 18 false rfl rfl rfl rfl rfl (by kernel_rfl) (by kernel_rfl) (by kernel_rfl) (fun _ _ _ _ h => h) (v_move rfl) rfl rfl ?_
                        refine m_take_yes (j := 17) (t := 137) 19 false rfl rfl rfl rfl rfl (by kernel_rfl) (by kernel_rfl) (by kernel_rfl) (fun _ _ _ _ h => h) (v_move rfl) rfl rfl ?_
                        refine m_take_yes (j := 17) (t := 137) 20 false rfl rfl rfl rfl rfl (by kernel_rfl) (by kernel_rfl) (by kernel_rfl) (fun _ _ _ _ h => h) (v_indexAddr ty35 ty42 rfl rfl (by first | rfl | assumption) hc (map_get hga) rfl) rfl rfl ?_
                        refine m_take_yes (j := 17) (t := 137) 21 false rfl rfl rfl rfl rfl (by kernel_rfl) (by kernel_rfl) (by kernel_rfl) (fun _ _ _ _ h => h) (by first | exact v_fieldAddr ty42 fo42_1 ty24 rfl | exact v_fieldAddr_box ty42 fo42_1 ty24 rfl) rfl rfl ?_
                        refine m_take_yes (j := 17) (t := 137) 22 false rfl rfl rfl rfl rfl (by kernel_rfl) (by kernel_rfl) (by kernel_rfl) (fun _ _ _ _ h => h) (by first | exact v_fieldAddr ty24 fo24_0 ty3 rfl | exact v_fieldAddr_box ty24 fo24_0 ty3 rfl) rfl rfl ?_
                        refine m_take_yes (j := 17) (t := 137) 23 true rfl rfl rfl rfl rfl (by kernel_rfl) (by kernel_rfl) (by kernel_rfl) (fun _ _ _ _ h => h) (by first | exact v_load ty3 rfl rfl (by first | rfl | assumption) (map_get hga) rfl | exact v_load_box ty3 rfl rfl (by assumption) rfl) rfl rfl ?_
                        refine m_takel_yes (j := 17) (t := 137) 24 rfl rfl rfl rfl rfl (by kernel_rfl) (by kernel_rfl) (by kernel_rfl) (fun _ _ _ _ h => h) (vl_fieldAddr ty24 fo24_0 ty3 rfl) rfl rfl ?_
                        refine m_take_yes (j := 17) (t := 137) 25 true rfl rfl rfl rfl rfl (by kernel_rfl) (by kernel_rfl) (by kernel_rfl) (fun _ _ _ _ h => h) (v_loadl ty3 rfl rfl rfl rfl) rfl rfl ?_
                        refine m_take_yes (j := 17) (t := 137) 26 false rfl rfl rfl rfl rfl (by kernel_rfl) (by kernel_rfl) (by kernel_rfl) (fun _ _ _ _ h => h) (v_neq rfl rfl) rfl rfl ?_
                        refine m_take 27 false rfl rfl (by kernel_rfl) (by kernel_rfl) (by kernel_rfl) (fun _ _ _ _ h => h) (v_pick_f rfl rfl) rfl rfl ?_
                        refine m_take 28 false rfl rfl (by kernel_rfl) (by kernel_rfl) (by kernel_rfl) (fun _ _ _ _ h => h) (v_move rfl) rfl rfl ?_
                        refine m_split 148 rfl (fun hg148 => ?_) (fun hg148 => ?_)
                        · exfalso; (try simp only [decide_eq_true_eq, decide_eq_false_iff_not, Bool.not_eq_true', Bool.not_eq_false', Bool.not_eq_eq_eq_not, Bool.not_true, Bool.not_false, Bool.and_eq_true, Bool.or_eq_true, Bool.or_eq_false_iff, beq_iff_eq, beq_eq_false_iff_ne, ne_eq, Int.not_lt, Int.not_le, Decidable.not_not] at hg148); first | exact hg148 (by rw [hs2]) | (simp [hs2] at hg148; done)
                        · try simp only [decide_eq_true_eq, decide_eq_false_iff_not, Bool.not_eq_true', Bool.not_eq_false', Bool.not_eq_eq_eq_not, Bool.not_true, Bool.not_false, Bool.and_eq_true, Bool.or_eq_true, Bool.or_eq_false_iff, beq_iff_eq, beq_eq_false_iff_ne, ne_eq, Int.not_lt, Int.not_le, Decidable.not_not] at hg148
                          refine m_take_yes (j := 28) (t := 148) 29 false rfl rfl rfl rfl rfl (by kernel_rfl) (by kernel_rfl) (by kernel_rfl) (fun _ _ _ _ h => h) (v_move rfl) rfl rfl ?_
                          refine m_take_yes (j := 28) (t := 148) 30 false rfl rfl rfl rfl rfl (by kernel_rfl) (by kernel_rfl) (by kernel_rfl) (fun _ _ _ _ h => h) (v_move rfl) rfl rfl ?_
                          refine m_take_yes (j := 28) (t := 148) 31 false rfl rfl rfl rfl rfl (by kernel_rfl) (by kernel_rfl) (by kernel_rfl) (fun _ _ _ _ h => h) (v_indexAddr ty35 ty42 rfl rfl (by first | rfl | assumption) hc (map_get hga) rfl) rfl rfl ?_
                          refine m_take_yes (j := 28) (t := 148) 32 false rfl rfl rfl rfl rfl (by kernel_rfl) (by kernel_rfl) (by kernel_rfl) (fun _ _ _ _ h => h) (by first | exact v_fieldAddr ty42 fo42_1 ty24 rfl | exact v_fieldAddr_box ty42 fo42_1 ty24 rfl) rfl rfl ?_
                          refine m_take_yes (j := 28) (t := 148) 33 false rfl rfl rfl rfl rfl (by kernel_rfl) (by kernel_rfl) (by kernel_rfl) (fun _ _ _ _ h => h) (by first | exact v_fieldAddr ty24 fo24_1 ty3 rfl | exact v_fieldAddr_box ty24 fo24_1 ty3 rfl) rfl rfl ?_
                          refine m_take_yes (j := 28) (t := 148) 34 true rfl rfl rfl rfl rfl (by kernel_rfl) (by kernel_rfl) (by kernel_rfl) (fun _ _ _ _ h => h) (by first | exact v_load ty3 rfl rfl (by first | rfl | assumption) (map_get hga) rfl | exact v_load_box ty3 rfl rfl (by assumption) rfl) rfl rfl ?_
                          refine m_takel_yes (j := 28) (t := 148) 35 rfl rfl rfl rfl rfl (by kernel_rfl) (by kernel_rfl) (by kernel_rfl) (fun _ _ _ _ h => h) (vl_fieldAddr ty24 fo24_1 ty3 rfl) rfl rfl ?_
                          refine m_take_yes (j := 28) (t := 148) 36 true rfl rfl rfl rfl rfl (by kernel_rfl) (by kernel_rfl) (by kernel_rfl) (fun _ _ _ _ h => h) (v_loadl ty3 rfl rfl rfl rfl) rfl rfl ?_
                          refine m_take_yes (j := 28) (t := 148) 37 false rfl rfl rfl rfl rfl (by kernel_rfl) (by kernel_rfl) (by kernel_rfl) (fun _ _ _ _ h => h) (v_neq rfl rfl) rfl rfl ?_
                          refine m_take 38 false rfl rfl (by kernel_rfl) (by kernel_rfl) (by kernel_rfl) (fun _ _ _ _ h => h) (v_pick_f rfl rfl) rfl rfl ?_
                          refine m_done (by kernel_rfl) ?_
                          refine g_next hK30 ?_
                          first | refine g_keep [2, 7, 9, 10, 11, 12, 158] [4, 13] [4, 13] (keep_cons rfl (keep_cons rfl (keep_cons rfl (keep_cons rfl (keep_cons rfl (keep_cons rfl (keep_cons rfl keep_nil))))))) (lkeep_cons rfl (lkeep_cons rfl lkeep_nil)) (keep_cons rfl (keep_cons rfl keep_nil)) rfl ?_ | refine g_keep [2, 7, 9, 10, 11, 12, 158] [4, 13] [4, 13] rfl rfl rfl rfl ?_
                          refine g_cond rfl (fun hc158 => ?_) (fun hc158 => ?_)
                          · exfalso; (try simp only [decide_eq_true_eq, decide_eq_false_iff_not, Bool.not_eq_true', Bool.not_eq_false', Bool.not_eq_eq_eq_not, Bool.not_true, Bool.not_false, Bool.and_eq_true, Bool.or_eq_true, Bool.or_eq_false_iff, beq_iff_eq, beq_eq_false_iff_ne, ne_eq, Int.not_lt, Int.not_le, Decidable.not_not] at hc158); first | exact hc158 (by rw [hs2]) | (simp [hs2] at hc158; done)
                          · try simp only [decide_eq_true_eq, decide_eq_false_iff_not, Bool.not_eq_true', Bool.not_eq_false', Bool.not_eq_eq_eq_not, Bool.not_true, Bool.not_false, Bool.and_eq_true, Bool.or_eq_true, Bool.or_eq_false_iff, beq_iff_eq, beq_eq_false_iff_ne, ne_eq, Int.not_lt, Int.not_le, Decidable.not_not] at hc158
                            refine g_skip ?_
                            refine g_next hK29 ?_
                            refine g_region ?_
                            refine g_step rfl (s_val (v_move rfl) rfl rfl ?_)
                            refine g_step rfl (s_val (v_add rfl rfl (by omega)) rfl rfl ?_)
                            refine g_step rfl (s_val (v_assign rfl) rfl rfl ?_)
                            refine g_nil ?_
                            first | refine g_keep [2, 7, 9, 10, 11, 12] [4, 13] [4, 13] (keep_cons rfl (keep_cons rfl (keep_cons rfl (keep_cons rfl (keep_cons rfl (keep_cons rfl keep_nil)))))) (lkeep_cons rfl (lkeep_cons rfl lkeep_nil)) (keep_cons rfl (keep_cons rfl keep_nil)) rfl ?_ | refine g_keep [2, 7, 9, 10, 11, 12] [4, 13] [4, 13] rfl rfl rfl rfl ?_
                            first | exact g_has ⟨c + 1, rfl, rfl, rfl, ⟨by rw [filterMap_snoc hx, hlm, ← List.append_assoc, List.length_append, hc]; rfl, hown⟩⟩ | exact g_has ⟨c, rfl, rfl, rfl, ⟨by rw [filterMap_snoc hx, lawM_none (.inr (by rw [← hs2]; refine sp_ext ?_ ?_ <;> omega)), Option.toList_none, List.append_nil]; exact hc, hown⟩⟩
                  · try simp only [decide_eq_true_eq, decide_eq_false_iff_not, Bool.not_eq_true', Bool.not_eq_false', Bool.not_eq_eq_eq_not, Bool.not_true, Bool.not_false, Bool.and_eq_true, Bool.or_eq_true, Bool.or_eq_false_iff, beq_iff_eq, beq_eq_false_iff_ne, ne_eq, Int.not_lt, Int.not_le, Decidable.not_not] at hc119
                    refine g_skip ?_
                    first | refine g_keep [2, 7, 9, 10, 11, 12] [4, 13] [4, 13] (keep_cons rfl (keep_cons rfl (keep_cons rfl (keep_cons rfl (keep_cons rfl (keep_cons rfl keep_nil)))))) (lkeep_cons rfl (lkeep_cons rfl lkeep_nil)) (keep_cons rfl (keep_cons rfl keep_nil)) rfl ?_ | refine g_keep [2, 7, 9, 10, 11, 12] [4, 13] [4, 13] rfl rfl rfl rfl ?_
                    first | exact g_has ⟨c + 1, rfl, rfl, rfl, ⟨by rw [filterMap_snoc hx, hlm, ← List.append_assoc, List.length_append, hc]; rfl, hown⟩⟩ | exact g_has ⟨c, rfl, rfl, rfl, ⟨by rw [filterMap_snoc hx, lawM_none (.inr (by rw [← hs2]; refine sp_ext ?_ ?_ <;> omega)), Option.toList_none, List.append_nil]; exact hc, hown⟩⟩
              · skip
                obtain ⟨c2, rfl, rfl, rfl, hc2, hown⟩ := hI
                refine g_region ?_
                refine g_step rfl (s_val (v_move rfl) rfl rfl ?_)
                refine g_step rfl (s_val (v_move rfl) rfl rfl ?_)
                refine g_step rfl (s_val (by first | exact v_loadl_all ty24 rfl rfl rfl rfl rfl | exact v_loadl_part (cs := [_, _]) ty24 rfl rfl rfl rfl rfl rfl) rfl rfl ?_)
                refine g_step rfl (s_val (v_indexAddr ty22 ty32 rfl rfl hown.view (by first | rfl | exact (rfl : (0 : Int) = ((0 : Nat) : Int)) | exact (Int.toNat_of_nonneg (by omega)).symm) (map_get hpx) rfl) rfl rfl ?_)
                refine g_step rfl (s_val (by first | exact v_fieldAddr ty32 fo32_3 ty24 rfl | exact v_fieldAddr_box ty32 fo32_3 ty24 rfl) rfl rfl ?_)
                refine g_step rfl (s_store_own (k := i) (off := 3) (old := encR x) (new := encR ((lawF t w ((k : Int) + 1)) x)) ty24 rfl rfl hown (map_get hpx) rfl rfl rfl (by rw [hs2]; rfl) ?_)
                intro G3 hown3
                refine g_nil ?_
                refine g_block_normal ?_
                refine g_next hK17 ?_
                refine g_region ?_
                refine g_step rfl (s_val (v_move rfl) rfl rfl ?_)
                refine g_step rfl (s_val (v_add rfl rfl (by omega)) rfl rfl ?_)
                refine g_step rfl (s_val (v_assign rfl) rfl rfl ?_)
                refine g_nil ?_
                first | refine g_keep [2, 7, 9, 10, 11, 12] [4] [4] (keep_cons rfl (keep_cons rfl (keep_cons rfl (keep_cons rfl (keep_cons rfl (keep_cons rfl keep_nil)))))) (lkeep_cons rfl lkeep_nil) (keep_cons rfl keep_nil) rfl ?_ | refine g_keep [2, 7, 9, 10, 11, 12] [4] [4] rfl rfl rfl rfl ?_
                first | exact g_round _ (by omega) ⟨i + 1, c2, by omega, rfl, rfl, rfl, rfl, ⟨by rw [← putAll_hit hx hcx, List.map_set]; exact hown3, hc2⟩⟩ | exact g_round _ (by omega) ⟨i + 1, c, by omega, rfl, rfl, rfl, rfl, ⟨by rw [← putAll_miss hx hc71]; exact hown, by rw [filterMap_snoc hx, lawM_none (.inl hc71)]; simpa using hc⟩⟩
        · try simp only [decide_eq_true_eq, decide_eq_false_iff_not, Bool.not_eq_true', Bool.not_eq_false', Bool.not_eq_eq_eq_not, Bool.not_true, Bool.not_false, Bool.and_eq_true, Bool.or_eq_true, Bool.or_eq_false_iff, beq_iff_eq, beq_eq_false_iff_ne, ne_eq, Int.not_lt, Int.not_le, Decidable.not_not] at hc58
          obtain rfl : i = (nowS t w l k).length := by omega
          rw [putAll_all] at hown
          rw [List.take_length] at hc
          have hown : Own w0.heap.size 7 H av ((nowS t w l (k + 1)).map encR) G := hown
          have hc : c = ((doneL t w l (k + 1)).length : Nat) := hc
          refine g_exit ?_
          refine g_then_exit ?_
          refine g_then_exit ?_
          refine g_block_same ?_
          refine g_block_normal ?_
          refine g_next hK13 ?_
          refine g_region ?_
          refine g_step rfl (s_val (v_move rfl) rfl rfl ?_)
          refine g_step rfl (s_val (v_add rfl rfl (by omega)) rfl rfl ?_)
          refine g_step rfl (s_val (v_assign rfl) rfl rfl ?_)
          refine g_nil ?_
          first | refine g_keep [2, 7, 9, 10, 11] [4] [4] (keep_cons rfl (keep_cons rfl (keep_cons rfl (keep_cons rfl (keep_cons rfl keep_nil))))) (lkeep_cons rfl lkeep_nil) (keep_cons rfl keep_nil) rfl ?_ | refine g_keep [2, 7, 9, 10, 11] [4] [4] rfl rfl rfl rfl ?_
          exact g_round _ (by omega) ⟨k + 1, _, by omega, rfl, rfl, rfl, rfl, ⟨hown, hc⟩⟩
      · try simp only [decide_eq_true_eq, decide_eq_false_iff_not, Bool.not_eq_true', Bool.not_eq_false', Bool.not_eq_eq_eq_not, Bool.not_true, Bool.not_false, Bool.and_eq_true, Bool.or_eq_true, Bool.or_eq_false_iff, beq_iff_eq, beq_eq_false_iff_ne, ne_eq, Int.not_lt, Int.not_le, Decidable.not_not] at hc52
        obtain rfl : k = 3 := by omega
        rw [← hpd] at hc
        refine g_exit ?_
        refine g_then_exit ?_
        refine g_then_exit ?_
        refine g_block_same ?_
        refine g_next hK9 ?_
        refine g_seq (fun K31 hK31 => ?_)
        refine g_region ?_
        refine g_step rfl (s_val (v_move rfl) rfl rfl ?_)
        refine g_step rfl (s_val (v_move rfl) rfl rfl ?_)
        refine g_step rfl (s_val (v_len ty35 rfl (by first | rfl | assumption) (by first | exact List.length_map .. | rfl)) rfl rfl ?_)
        refine g_step rfl (s_val (v_eql rfl rfl) rfl rfl ?_)
        refine g_step rfl (s_val (v_move rfl) rfl rfl ?_)
        refine g_split 170 rfl (fun hg170 => ?_) (fun hg170 => ?_)
        · try simp only [decide_eq_true_eq, decide_eq_false_iff_not, Bool.not_eq_true', Bool.not_eq_false', Bool.not_eq_eq_eq_not, Bool.not_true, Bool.not_false, Bool.and_eq_true, Bool.or_eq_true, Bool.or_eq_false_iff, beq_iff_eq, beq_eq_false_iff_ne, ne_eq, Int.not_lt, Int.not_le, Decidable.not_not] at hg170
          refine g_step_yes (j := 4) (t := 170) rfl rfl rfl rfl (s_callp rfl rfl rfl (awake32_ok _) ?_)
          rintro _ rfl
          refine g_step rfl (s_val (v_pick_t rfl rfl) rfl rfl ?_)
          refine g_step rfl (s_val (v_assign rfl) rfl rfl ?_)
          refine g_nil ?_
          refine g_next hK31 ?_
          refine g_ret ?_
          refine g_end1 (.inl rfl) Try.results4 (.tmp rfl) [] (ASub.refl _) (by first | exact AHeap.sub_refl _ | exact hown.sub) (fun p hp => by cases hp) ⟨rfl, ?_⟩
          rfl
        · exfalso; (try simp only [decide_eq_true_eq, decide_eq_false_iff_not, Bool.not_eq_true', Bool.not_eq_false', Bool.not_eq_eq_eq_not, Bool.not_true, Bool.not_false, Bool.and_eq_true, Bool.or_eq_true, Bool.or_eq_false_iff, beq_iff_eq, beq_eq_false_iff_ne, ne_eq, Int.not_lt, Int.not_le, Decidable.not_not] at hg170); omega

end Go.Proofs.Ytgedefcjngofkaa

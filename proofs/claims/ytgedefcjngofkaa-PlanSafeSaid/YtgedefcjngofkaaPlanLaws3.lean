import Derived.Test.YtgedefcjngofkaaPlanLaws
import Derived.Test.YtgedefcjngofkaaPPlan4
set_option maxHeartbeats 8000000
set_option linter.unusedSimpArgs false
set_option linter.unusedVariables false
set_option maxRecDepth 100000
namespace Go.Proofs.Ytgedefcjngofkaa
open Go Go.Proofs.Ytgedefcjngofkaa.AM
theorem planSafe_ok (l : List Rc) (t : Sp) (w : Int) (hh : ∀ r ∈ l, Held r.bag) (hlen : l.length ≤ 140737488351232) (G : AHeap) : PCalls Try.prog 6 [encRs l, encSp t, .int .i64 w] G (fun v => v = .bool true) := by
  refine LCalls.intro 207 fi6 rfl Try.ntmps6 rfl (fun _ h => h.elim) (fun H hH w0 hw0 => ?_)
  refine g_seq (fun K0 hK0 => ?_)
  refine g_region ?_
  refine g_step rfl (s_box rfl rfl rfl rfl ?_)
  refine g_step rfl (s_val (v_assign rfl) rfl rfl ?_)
  refine g_nil ?_
  refine g_next hK0 ?_
  refine g_seq (fun K1 hK1 => ?_)
  refine g_seq (fun K2 hK2 => ?_)
  refine g_region ?_
  refine g_step rfl (s_val (v_move rfl) rfl rfl ?_)
  refine g_step rfl (s_callp rfl rfl rfl (fewL_ok l _ _ rfl hh hlen) ?_)
  rintro _ rfl
  refine g_step rfl (s_val (v_not rfl) rfl rfl ?_)
  refine g_nil ?_
  refine g_next hK2 ?_
  refine g_cond rfl (fun hc19 => ?_) (fun hc19 => ?_)
  · try simp only [decide_eq_true_eq, decide_eq_false_iff_not, Bool.not_eq_true', Bool.not_eq_false', Bool.not_eq_eq_eq_not, Bool.not_true, Bool.not_false, Bool.and_eq_true, Bool.or_eq_true, Bool.or_eq_false_iff, beq_iff_eq, beq_eq_false_iff_ne, ne_eq, Int.not_lt, Int.not_le, Decidable.not_not] at hc19
    refine g_seq (fun K3 hK3 => ?_)
    refine g_region ?_
    refine g_step rfl (s_callp rfl rfl rfl (awake32_ok _) ?_)
    rintro _ rfl
    refine g_step rfl (s_val (v_assign rfl) rfl rfl ?_)
    refine g_nil ?_
    refine g_next hK3 ?_
    refine g_ret ?_
    refine g_then_ret ?_
    refine g_end1 (.inl rfl) Try.results6 (.tmp rfl) [] (ASub.refl _) (AHeap.sub_refl _) (fun p hp => by cases hp) ⟨rfl, ?_⟩
    rfl
  · try simp only [decide_eq_true_eq, decide_eq_false_iff_not, Bool.not_eq_true', Bool.not_eq_false', Bool.not_eq_eq_eq_not, Bool.not_true, Bool.not_false, Bool.and_eq_true, Bool.or_eq_true, Bool.or_eq_false_iff, beq_iff_eq, beq_eq_false_iff_ne, ne_eq, Int.not_lt, Int.not_le, Decidable.not_not] at hc19
    obtain ⟨hl20, hsl⟩ := fewL_small (l := l) (by first | assumption | simp_all)
    refine g_skip ?_
    refine g_next hK1 ?_
    refine g_seq (fun K4 hK4 => ?_)
    refine g_region ?_
    refine g_step rfl (s_val (v_move rfl) rfl rfl ?_)
    refine g_step rfl (s_val (by first | exact v_loadl_all ty24 rfl rfl rfl rfl rfl | exact v_loadl_part (cs := [_, _]) ty24 rfl rfl rfl rfl rfl rfl) rfl rfl ?_)
    refine g_step rfl (s_val (v_move rfl) rfl rfl ?_)
    refine g_step rfl (s_callp rfl rfl rfl (plan_ok l t w _ (by omega) hsl) ?_)
    rintro _ rfl
    refine g_step rfl (s_val (v_move rfl) rfl rfl ?_)
    refine g_step rfl (s_val (v_extract rfl rfl) rfl rfl ?_)
    refine g_step rfl (s_val (v_extract rfl rfl) rfl rfl ?_)
    refine g_step rfl (s_val (v_assign rfl) rfl rfl ?_)
    refine g_step rfl (s_val (v_assign rfl) rfl rfl ?_)
    refine g_nil ?_
    refine g_next hK4 ?_
    refine g_cut (fun env L B G => env = [(0, encRs l), (2, .int .i64 w), (7, .imm ((planL l t w).map encMv))] ∧ L = [(4, 4, 0)] ∧ B = [(4, encSp t)] ∧ H = G ∧ mayE l t w = 0) ?_ (fun env L B G hI => ?_)
    · skip
      refine g_seq (fun K5 hK5 => ?_)
      refine g_region ?_
      refine g_step rfl (s_val (v_move rfl) rfl rfl ?_)
      refine g_step rfl (s_val (v_neq rfl rfl) rfl rfl ?_)
      refine g_nil ?_
      refine g_next hK5 ?_
      refine g_cond rfl (fun hc29 => ?_) (fun hc29 => ?_)
      · try simp only [decide_eq_true_eq, decide_eq_false_iff_not, Bool.not_eq_true', Bool.not_eq_false', Bool.not_eq_eq_eq_not, Bool.not_true, Bool.not_false, Bool.and_eq_true, Bool.or_eq_true, Bool.or_eq_false_iff, beq_iff_eq, beq_eq_false_iff_ne, ne_eq, Int.not_lt, Int.not_le, Decidable.not_not] at hc29
        refine g_seq (fun K6 hK6 => ?_)
        refine g_region ?_
        refine g_step rfl (s_val (v_move rfl) rfl rfl ?_)
        refine g_step rfl (s_val (v_move rfl) rfl rfl ?_)
        refine g_step rfl (s_val (by first | exact v_loadl_all ty24 rfl rfl rfl rfl rfl | exact v_loadl_part (cs := [_, _]) ty24 rfl rfl rfl rfl rfl rfl) rfl rfl ?_)
        refine g_step rfl (s_val (v_move rfl) rfl rfl ?_)
        refine g_step rfl (s_callp rfl rfl rfl (why_ok l t w _ (by omega) hsl) ?_)
        rintro _ rfl
        refine g_step rfl (s_val (v_eql rfl rfl) rfl rfl ?_)
        refine g_step rfl (s_val (v_move rfl) rfl rfl ?_)
        refine g_split 36 rfl (fun hg36 => ?_) (fun hg36 => ?_)
        · try simp only [decide_eq_true_eq, decide_eq_false_iff_not, Bool.not_eq_true', Bool.not_eq_false', Bool.not_eq_eq_eq_not, Bool.not_true, Bool.not_false, Bool.and_eq_true, Bool.or_eq_true, Bool.or_eq_false_iff, beq_iff_eq, beq_eq_false_iff_ne, ne_eq, Int.not_lt, Int.not_le, Decidable.not_not] at hg36
          refine g_step_yes (j := 6) (t := 36) rfl rfl rfl rfl (s_callp rfl rfl rfl (awake32_ok _) ?_)
          rintro _ rfl
          refine g_step rfl (s_val (v_pick_t rfl rfl) rfl rfl ?_)
          refine g_step rfl (s_val (v_assign rfl) rfl rfl ?_)
          refine g_nil ?_
          refine g_next hK6 ?_
          first | refine g_keep [6] [] [] (keep_cons rfl keep_nil) lkeep_nil keep_nil rfl ?_ | refine g_keep [6] [] [] rfl rfl rfl rfl ?_
          refine g_ret ?_
          refine g_then_ret ?_
          refine g_end1 (.inl rfl) Try.results6 (.tmp rfl) [] (ASub.refl _) (AHeap.sub_refl _) (fun p hp => by cases hp) ⟨rfl, ?_⟩
          rfl
        · exfalso; (try simp only [decide_eq_true_eq, decide_eq_false_iff_not, Bool.not_eq_true', Bool.not_eq_false', Bool.not_eq_eq_eq_not, Bool.not_true, Bool.not_false, Bool.and_eq_true, Bool.or_eq_true, Bool.or_eq_false_iff, beq_iff_eq, beq_eq_false_iff_ne, ne_eq, Int.not_lt, Int.not_le, Decidable.not_not] at hg36); first | exact hg36 rfl | (simp at hg36; done)
      · try simp only [decide_eq_true_eq, decide_eq_false_iff_not, Bool.not_eq_true', Bool.not_eq_false', Bool.not_eq_eq_eq_not, Bool.not_true, Bool.not_false, Bool.and_eq_true, Bool.or_eq_true, Bool.or_eq_false_iff, beq_iff_eq, beq_eq_false_iff_ne, ne_eq, Int.not_lt, Int.not_le, Decidable.not_not] at hc29
        rw [if_pos hc29]
        refine g_skip ?_
        first | refine g_keep [0, 2, 7] [4] [4] (keep_cons rfl (keep_cons rfl (keep_cons rfl keep_nil))) (lkeep_cons rfl lkeep_nil) (keep_cons rfl keep_nil) rfl ?_ | refine g_keep [0, 2, 7] [4] [4] rfl rfl rfl rfl ?_
        exact g_has ⟨rfl, rfl, rfl, rfl, hc29⟩
    · skip
      obtain ⟨rfl, rfl, rfl, rfl, hz⟩ := hI
      obtain ⟨z1, z2, z3, z4, z5, z6⟩ := may_zero hz
      have hv2 : 1 ≤ t.lo ∧ t.lo ≤ t.hi ∧ t.hi ≤ 3 := by simpa [spValid] using z2
      have hpl := plan_len hz
      refine g_seq (fun K7 hK7 => ?_)
      refine g_region ?_
      refine g_step rfl (s_val (v_move rfl) rfl rfl ?_)
      refine g_step rfl (s_callp rfl rfl rfl (recCopy_ok l _ _ rfl (by omega) hsl) ?_)
      rintro _ rfl
      refine g_step rfl (s_val (v_assign rfl) rfl rfl ?_)
      refine g_nil ?_
      refine g_next hK7 ?_
      refine g_seq (fun K8 hK8 => ?_)
      refine g_seq (fun K9 hK9 => ?_)
      refine g_region ?_
      refine g_step rfl (s_val (v_assign rfl) rfl rfl ?_)
      refine g_nil ?_
      refine g_next hK9 ?_
      refine g_block ?_
      first | refine g_keep [0, 2, 7, 9, 10] [4] [4] (keep_cons rfl (keep_cons rfl (keep_cons rfl (keep_cons rfl (keep_cons rfl keep_nil))))) (lkeep_cons rfl lkeep_nil) (keep_cons rfl keep_nil) rfl ?_ | refine g_keep [0, 2, 7, 9, 10] [4] [4] rfl rfl rfl rfl ?_
      refine g_loop (fun n env L B G => ∃ (k : Nat) (cur : List Rc), k ≤ (planL l t w).length ∧ n = (planL l t w).length - k ∧ env = [(0, encRs l), (2, .int .i64 w), (7, .imm ((planL l t w).map encMv)), (9, (encRs cur)), (10, .int .i64 (k : Int))] ∧ L = [(4, 4, 0)] ∧ B = [(4, encSp t)] ∧ H = G ∧ cur = applyL l ((planL l t w).take k)) ((planL l t w).length) ⟨0, l, Nat.zero_le _, rfl, rfl, rfl, rfl, rfl, by show l = l.map (applyR []); rw [show (applyR [] : Rc → Rc) = id from rfl, List.map_id]⟩ (fun n env L B G hI => ?_)
      obtain ⟨k, cur, hk, rfl, rfl, rfl, rfl, rfl, hcur⟩ := hI
      refine g_seq (fun K10 hK10 => ?_)
      refine g_seq (fun K11 hK11 => ?_)
      refine g_region ?_
      refine g_step rfl (s_val (v_move rfl) rfl rfl ?_)
      refine g_step rfl (s_val (v_move rfl) rfl rfl ?_)
      refine g_step rfl (s_val (v_len ty35 rfl (by first | rfl | assumption) (by first | exact List.length_map .. | rfl)) rfl rfl ?_)
      refine g_step rfl (s_val (v_lss rfl rfl) rfl rfl ?_)
      refine g_nil ?_
      refine g_next hK11 ?_
      refine g_cond rfl (fun hc44 => ?_) (fun hc44 => ?_)
      · try simp only [decide_eq_true_eq, decide_eq_false_iff_not, Bool.not_eq_true', Bool.not_eq_false', Bool.not_eq_eq_eq_not, Bool.not_true, Bool.not_false, Bool.and_eq_true, Bool.or_eq_true, Bool.or_eq_false_iff, beq_iff_eq, beq_eq_false_iff_ne, ne_eq, Int.not_lt, Int.not_le, Decidable.not_not] at hc44
        obtain ⟨m, hm⟩ := get_some (l := (planL l t w)) (k := k) (by omega)
        obtain ⟨x, hfi, hcx, hvm, hwm, hlo, hhi, hne, hpu, hsp⟩ := plan_step hz hm
        rw [← hcur] at hfi hpu
        have hcs : ∀ y ∈ cur, Small y.bag := by rw [hcur]; exact applyL_small hsl
        have hcl : cur.length ≤ 20 := by rw [hcur, applyL, List.length_map]; exact hl20
        have hsx : Small x.bag := by have h9 := rfind_small (id := m.id) hcs; rw [hfi] at h9; exact h9
        have hvm2 : 1 ≤ m.sp.lo ∧ m.sp.lo ≤ m.sp.hi ∧ m.sp.hi ≤ 3 := by simpa [spValid] using hvm
        refine g_skip ?_
        refine g_next hK10 ?_
        refine g_seq (fun K12 hK12 => ?_)
        refine g_block ?_
        refine g_seq (fun K13 hK13 => ?_)
        refine g_region ?_
        refine g_step rfl (s_val (v_move rfl) rfl rfl ?_)
        refine g_step rfl (s_val (v_move rfl) rfl rfl ?_)
        refine g_step rfl (s_val (v_move rfl) rfl rfl ?_)
        refine g_step rfl (s_val (v_indexAddr ty35 ty42 rfl rfl (by first | rfl | assumption) (by first | rfl | exact (rfl : (0 : Int) = ((0 : Nat) : Int)) | exact (Int.toNat_of_nonneg (by omega)).symm) (map_get hm) rfl) rfl rfl ?_)
        refine g_step rfl (s_val (by first | exact v_fieldAddr ty42 fo42_0 ty3 rfl | exact v_fieldAddr_box ty42 fo42_0 ty3 rfl) rfl rfl ?_)
        refine g_step rfl (s_val (by first | exact v_load ty3 rfl rfl (by first | rfl | assumption) (map_get hm) rfl | exact v_load_box ty3 rfl rfl (by assumption) rfl) rfl rfl ?_)
        refine g_step rfl (s_callp rfl rfl rfl (find_ok cur m.id _ _ rfl (by omega) hcs) ?_)
        rintro _ rfl
        rw [hfi]
        refine g_step rfl (s_val (v_move rfl) rfl rfl ?_)
        refine g_step rfl (s_val (v_extract rfl rfl) rfl rfl ?_)
        refine g_step rfl (s_val (v_extract rfl rfl) rfl rfl ?_)
        refine g_step rfl (s_alloc (av := (.agg [(.int .i64 0), (.int .i64 0), (.int .i64 0), (.int .i64 0), (.int .i64 0), (.bool false), .nil0])) ty32 rfl rfl rfl rfl ?_)
        refine g_step rfl (s_store_all ty32 rfl rfl rfl rfl rfl rfl ?_)
        refine g_step rfl (s_val (v_assign rfl) rfl rfl ?_)
        refine g_nil ?_
        refine g_next hK13 ?_
        refine g_seq (fun K14 hK14 => ?_)
        refine g_region ?_
        refine g_step rfl (s_val (v_move rfl) rfl rfl ?_)
        refine g_step rfl (s_val (v_move rfl) rfl rfl ?_)
        refine g_step rfl (s_val (v_indexAddr ty35 ty42 rfl rfl (by first | rfl | assumption) (by first | rfl | exact (rfl : (0 : Int) = ((0 : Nat) : Int)) | exact (Int.toNat_of_nonneg (by omega)).symm) (map_get hm) rfl) rfl rfl ?_)
        refine g_step rfl (s_val (by first | exact v_fieldAddr ty42 fo42_1 ty24 rfl | exact v_fieldAddr_box ty42 fo42_1 ty24 rfl) rfl rfl ?_)
        refine g_step rfl (s_val (by first | exact v_load_elt ty24 rfl rfl (by first | rfl | assumption) (map_get hm) rfl rfl | exact v_load_box_all ty24 rfl rfl (by assumption) rfl rfl | exact v_load_part (cs := [_, _]) ty24 rfl rfl (by first | rfl | assumption) (map_get hm) rfl rfl rfl | exact v_load_box_part (cs := [_, _]) ty24 rfl rfl (by assumption) rfl rfl rfl) rfl rfl ?_)
        refine g_step rfl (s_alloc (av := (.agg [(.int .i64 0), (.int .i64 0)])) ty24 rfl rfl rfl rfl ?_)
        refine g_step rfl (s_store_all ty24 rfl rfl rfl rfl rfl rfl ?_)
        refine g_nil ?_
        refine g_next hK14 ?_
        first | refine g_keep [0, 2, 7, 9, 10, 12] [4, 11, 13] [4, 11, 13] (keep_cons rfl (keep_cons rfl (keep_cons rfl (keep_cons rfl (keep_cons rfl (keep_cons rfl keep_nil)))))) (lkeep_cons rfl (lkeep_cons rfl (lkeep_cons rfl lkeep_nil))) (keep_cons rfl (keep_cons rfl (keep_cons rfl keep_nil))) rfl ?_ | refine g_keep [0, 2, 7, 9, 10, 12] [4, 11, 13] [4, 11, 13] rfl rfl rfl rfl ?_
        refine g_seq (fun K15 hK15 => ?_)
        refine g_seq (fun K16 hK16 => ?_)
        refine g_region ?_
        refine g_step rfl (s_val (v_move rfl) rfl rfl ?_)
        refine g_step rfl (s_val (v_not rfl) rfl rfl ?_)
        refine g_step rfl (s_val (v_move rfl) rfl rfl ?_)
        refine g_split 64 rfl (fun hg64 => ?_) (fun hg64 => ?_)
        · exfalso; (try simp only [decide_eq_true_eq, decide_eq_false_iff_not, Bool.not_eq_true', Bool.not_eq_false', Bool.not_eq_eq_eq_not, Bool.not_true, Bool.not_false, Bool.and_eq_true, Bool.or_eq_true, Bool.or_eq_false_iff, beq_iff_eq, beq_eq_false_iff_ne, ne_eq, Int.not_lt, Int.not_le, Decidable.not_not] at hg64); simp at hg64
        · try simp only [decide_eq_true_eq, decide_eq_false_iff_not, Bool.not_eq_true', Bool.not_eq_false', Bool.not_eq_eq_eq_not, Bool.not_true, Bool.not_false, Bool.and_eq_true, Bool.or_eq_true, Bool.or_eq_false_iff, beq_iff_eq, beq_eq_false_iff_ne, ne_eq, Int.not_lt, Int.not_le, Decidable.not_not] at hg64
          refine g_step_yes (j := 2) (t := 64) rfl rfl rfl rfl (s_val (by first | exact v_loadl_all ty32 rfl rfl rfl rfl rfl | exact v_loadl_part (cs := [_, _, _, _, _, _, _]) ty32 rfl rfl rfl rfl rfl rfl) rfl rfl ?_)
          refine g_step_yes (j := 2) (t := 64) rfl rfl rfl rfl (s_callp rfl rfl rfl (counts32_ok _ _) ?_)
          rintro _ rfl
          refine g_step_yes (j := 2) (t := 64) rfl rfl rfl rfl (s_val (v_not rfl) rfl rfl ?_)
          refine g_step rfl (s_val (v_pick_f rfl rfl) rfl rfl ?_)
          refine g_step rfl (s_val (v_move rfl) rfl rfl ?_)
          refine g_split 69 rfl (fun hg69 => ?_) (fun hg69 => ?_)
          · exfalso; (try simp only [decide_eq_true_eq, decide_eq_false_iff_not, Bool.not_eq_true', Bool.not_eq_false', Bool.not_eq_eq_eq_not, Bool.not_true, Bool.not_false, Bool.and_eq_true, Bool.or_eq_true, Bool.or_eq_false_iff, beq_iff_eq, beq_eq_false_iff_ne, ne_eq, Int.not_lt, Int.not_le, Decidable.not_not] at hg69); simp [hcx] at hg69
          · try simp only [decide_eq_true_eq, decide_eq_false_iff_not, Bool.not_eq_true', Bool.not_eq_false', Bool.not_eq_eq_eq_not, Bool.not_true, Bool.not_false, Bool.and_eq_true, Bool.or_eq_true, Bool.or_eq_false_iff, beq_iff_eq, beq_eq_false_iff_ne, ne_eq, Int.not_lt, Int.not_le, Decidable.not_not] at hg69
            refine g_step_yes (j := 7) (t := 69) rfl rfl rfl rfl (s_val (by first | exact v_loadl_all ty24 rfl rfl rfl rfl rfl | exact v_loadl_part (cs := [_, _]) ty24 rfl rfl rfl rfl rfl rfl) rfl rfl ?_)
            refine g_step_yes (j := 7) (t := 69) rfl rfl rfl rfl (s_callp rfl rfl rfl (spValid_ok m.sp _) ?_)
            rintro _ rfl
            refine g_step_yes (j := 7) (t := 69) rfl rfl rfl rfl (s_val (v_not rfl) rfl rfl ?_)
            refine g_step rfl (s_val (v_pick_f rfl rfl) rfl rfl ?_)
            refine g_step rfl (s_val (v_move rfl) rfl rfl ?_)
            refine g_split 74 rfl (fun hg74 => ?_) (fun hg74 => ?_)
            · exfalso; (try simp only [decide_eq_true_eq, decide_eq_false_iff_not, Bool.not_eq_true', Bool.not_eq_false', Bool.not_eq_eq_eq_not, Bool.not_true, Bool.not_false, Bool.and_eq_true, Bool.or_eq_true, Bool.or_eq_false_iff, beq_iff_eq, beq_eq_false_iff_ne, ne_eq, Int.not_lt, Int.not_le, Decidable.not_not] at hg74); simp [hvm] at hg74
            · try simp only [decide_eq_true_eq, decide_eq_false_iff_not, Bool.not_eq_true', Bool.not_eq_false', Bool.not_eq_eq_eq_not, Bool.not_true, Bool.not_false, Bool.and_eq_true, Bool.or_eq_true, Bool.or_eq_false_iff, beq_iff_eq, beq_eq_false_iff_ne, ne_eq, Int.not_lt, Int.not_le, Decidable.not_not] at hg74
              refine g_step_yes (j := 12) (t := 74) rfl rfl rfl rfl (s_fieldAddr ty24 fo24_1 ty3 rfl rfl ?_)
              refine g_step_yes (j := 12) (t := 74) rfl rfl rfl rfl (s_val (v_loadl ty3 rfl rfl rfl rfl) rfl rfl ?_)
              refine g_step_yes (j := 12) (t := 74) rfl rfl rfl rfl (s_fieldAddr ty24 fo24_0 ty3 rfl rfl ?_)
              refine g_step_yes (j := 12) (t := 74) rfl rfl rfl rfl (s_val (v_loadl ty3 rfl rfl rfl rfl) rfl rfl ?_)
              refine g_step_yes (j := 12) (t := 74) rfl rfl rfl rfl (s_val (v_sub_ rfl rfl (by omega)) rfl rfl ?_)
              refine g_step_yes (j := 12) (t := 74) rfl rfl rfl rfl (s_val (v_add rfl rfl (by omega)) rfl rfl ?_)
              refine g_step_yes (j := 12) (t := 74) rfl rfl rfl rfl (s_val (v_move rfl) rfl rfl ?_)
              refine g_step_yes (j := 12) (t := 74) rfl rfl rfl rfl (s_val (v_gtr rfl rfl) rfl rfl ?_)
              refine g_step rfl (s_val (v_pick_f rfl rfl) rfl rfl ?_)
              refine g_step rfl (s_val (v_move rfl) rfl rfl ?_)
              refine g_split 84 rfl (fun hg84 => ?_) (fun hg84 => ?_)
              · exfalso; (try simp only [decide_eq_true_eq, decide_eq_false_iff_not, Bool.not_eq_true', Bool.not_eq_false', Bool.not_eq_eq_eq_not, Bool.not_true, Bool.not_false, Bool.and_eq_true, Bool.or_eq_true, Bool.or_eq_false_iff, beq_iff_eq, beq_eq_false_iff_ne, ne_eq, Int.not_lt, Int.not_le, Decidable.not_not] at hg84); omega
              · try simp only [decide_eq_true_eq, decide_eq_false_iff_not, Bool.not_eq_true', Bool.not_eq_false', Bool.not_eq_eq_eq_not, Bool.not_true, Bool.not_false, Bool.and_eq_true, Bool.or_eq_true, Bool.or_eq_false_iff, beq_iff_eq, beq_eq_false_iff_ne, ne_eq, Int.not_lt, Int.not_le, Decidable.not_not] at hg84
                refine g_step_yes (j := 22) (t := 84) rfl rfl rfl rfl (s_fieldAddr ty24 fo24_0 ty3 rfl rfl ?_)
                refine g_step_yes (j := 22) (t := 84) rfl rfl rfl rfl (s_val (v_loadl ty3 rfl rfl rfl rfl) rfl rfl ?_)
                refine g_step_yes (j := 22) (t := 84) rfl rfl rfl rfl (s_fieldAddr ty32 fo32_3 ty24 rfl rfl ?_)
                refine g_step_yes (j := 22) (t := 84) rfl rfl rfl rfl (s_fieldAddr ty24 fo24_0 ty3 rfl rfl ?_)
                refine g_step_yes (j := 22) (t := 84) rfl rfl rfl rfl (s_val (v_loadl ty3 rfl rfl rfl rfl) rfl rfl ?_)
                refine g_step_yes (j := 22) (t := 84) rfl rfl rfl rfl (s_val (v_lss rfl rfl) rfl rfl ?_)
                refine g_step rfl (s_val (v_pick_f rfl rfl) rfl rfl ?_)
                refine g_step rfl (s_val (v_move rfl) rfl rfl ?_)
                refine g_split 92 rfl (fun hg92 => ?_) (fun hg92 => ?_)
                · exfalso; (try simp only [decide_eq_true_eq, decide_eq_false_iff_not, Bool.not_eq_true', Bool.not_eq_false', Bool.not_eq_eq_eq_not, Bool.not_true, Bool.not_false, Bool.and_eq_true, Bool.or_eq_true, Bool.or_eq_false_iff, beq_iff_eq, beq_eq_false_iff_ne, ne_eq, Int.not_lt, Int.not_le, Decidable.not_not] at hg92); omega
                · try simp only [decide_eq_true_eq, decide_eq_false_iff_not, Bool.not_eq_true', Bool.not_eq_false', Bool.not_eq_eq_eq_not, Bool.not_true, Bool.not_false, Bool.and_eq_true, Bool.or_eq_true, Bool.or_eq_false_iff, beq_iff_eq, beq_eq_false_iff_ne, ne_eq, Int.not_lt, Int.not_le, Decidable.not_not] at hg92
                  refine g_step_yes (j := 30) (t := 92) rfl rfl rfl rfl (s_fieldAddr ty24 fo24_1 ty3 rfl rfl ?_)
                  refine g_step_yes (j := 30) (t := 92) rfl rfl rfl rfl (s_val (v_loadl ty3 rfl rfl rfl rfl) rfl rfl ?_)
                  refine g_step_yes (j := 30) (t := 92) rfl rfl rfl rfl (s_fieldAddr ty32 fo32_3 ty24 rfl rfl ?_)
                  refine g_step_yes (j := 30) (t := 92) rfl rfl rfl rfl (s_fieldAddr ty24 fo24_1 ty3 rfl rfl ?_)
                  refine g_step_yes (j := 30) (t := 92) rfl rfl rfl rfl (s_val (v_loadl ty3 rfl rfl rfl rfl) rfl rfl ?_)
                  refine g_step_yes (j := 30) (t := 92) rfl rfl rfl rfl (s_val (v_lss rfl rfl) rfl rfl ?_)
                  refine g_step rfl (s_val (v_pick_f rfl rfl) rfl rfl ?_)
                  refine g_step rfl (s_val (v_move rfl) rfl rfl ?_)
                  refine g_split 100 rfl (fun hg100 => ?_) (fun hg100 => ?_)
                  · exfalso; (try simp only [decide_eq_true_eq, decide_eq_false_iff_not, Bool.not_eq_true', Bool.not_eq_false', Bool.not_eq_eq_eq_not, Bool.not_true, Bool.not_false, Bool.and_eq_true, Bool.or_eq_true, Bool.or_eq_false_iff, beq_iff_eq, beq_eq_false_iff_ne, ne_eq, Int.not_lt, Int.not_le, Decidable.not_not] at hg100); omega
                  · try simp only [decide_eq_true_eq, decide_eq_false_iff_not, Bool.not_eq_true', Bool.not_eq_false', Bool.not_eq_eq_eq_not, Bool.not_true, Bool.not_false, Bool.and_eq_true, Bool.or_eq_true, Bool.or_eq_false_iff, beq_iff_eq, beq_eq_false_iff_ne, ne_eq, Int.not_lt, Int.not_le, Decidable.not_not] at hg100
                    refine g_step_yes (j := 38) (t := 100) rfl rfl rfl rfl (s_fieldAddr ty24 fo24_0 ty3 rfl rfl ?_)
                    refine g_step_yes (j := 38) (t := 100) rfl rfl rfl rfl (s_val (v_loadl ty3 rfl rfl rfl rfl) rfl rfl ?_)
                    refine g_step_yes (j := 38) (t := 100) rfl rfl rfl rfl (s_fieldAddr ty32 fo32_3 ty24 rfl rfl ?_)
                    refine g_step_yes (j := 38) (t := 100) rfl rfl rfl rfl (s_fieldAddr ty24 fo24_0 ty3 rfl rfl ?_)
                    refine g_step_yes (j := 38) (t := 100) rfl rfl rfl rfl (s_val (v_loadl ty3 rfl rfl rfl rfl) rfl rfl ?_)
                    refine g_step_yes (j := 38) (t := 100) rfl rfl rfl rfl (s_val (v_eql rfl rfl) rfl rfl ?_)
                    refine g_step_yes (j := 38) (t := 100) rfl rfl rfl rfl (s_val (v_move rfl) rfl rfl ?_)
                    refine g_split 107 rfl (fun hg107 => ?_) (fun hg107 => ?_)
                    · try simp only [decide_eq_true_eq, decide_eq_false_iff_not, Bool.not_eq_true', Bool.not_eq_false', Bool.not_eq_eq_eq_not, Bool.not_true, Bool.not_false, Bool.and_eq_true, Bool.or_eq_true, Bool.or_eq_false_iff, beq_iff_eq, beq_eq_false_iff_ne, ne_eq, Int.not_lt, Int.not_le, Decidable.not_not] at hg107
                      refine g_step_yes (j := 45) (t := 107) rfl rfl rfl rfl (s_fieldAddr ty24 fo24_1 ty3 rfl rfl ?_)
                      refine g_step_yes (j := 45) (t := 107) rfl rfl rfl rfl (s_val (v_loadl ty3 rfl rfl rfl rfl) rfl rfl ?_)
                      refine g_step_yes (j := 45) (t := 107) rfl rfl rfl rfl (s_fieldAddr ty32 fo32_3 ty24 rfl rfl ?_)
                      refine g_step_yes (j := 45) (t := 107) rfl rfl rfl rfl (s_fieldAddr ty24 fo24_1 ty3 rfl rfl ?_)
                      refine g_step_yes (j := 45) (t := 107) rfl rfl rfl rfl (s_val (v_loadl ty3 rfl rfl rfl rfl) rfl rfl ?_)
                      refine g_step_yes (j := 45) (t := 107) rfl rfl rfl rfl (s_val (v_eql rfl rfl) rfl rfl ?_)
                      refine g_step_yes (j := 38) (t := 100) rfl rfl rfl rfl (s_val (v_pick_t rfl rfl) rfl rfl ?_)
                      refine g_step rfl (s_val (v_pick_f rfl rfl) rfl rfl ?_)
                      refine g_nil ?_
                      refine g_next hK16 ?_
                      first | refine g_keep [0, 2, 7, 9, 10, 115] [4, 11, 13] [4, 11, 13] (keep_cons rfl (keep_cons rfl (keep_cons rfl (keep_cons rfl (keep_cons rfl (keep_cons rfl keep_nil)))))) (lkeep_cons rfl (lkeep_cons rfl (lkeep_cons rfl lkeep_nil))) (keep_cons rfl (keep_cons rfl (keep_cons rfl keep_nil))) rfl ?_ | refine g_keep [0, 2, 7, 9, 10, 115] [4, 11, 13] [4, 11, 13] rfl rfl rfl rfl ?_
                      refine g_cond rfl (fun hc115 => ?_) (fun hc115 => ?_)
                      · exfalso; (try simp only [decide_eq_true_eq, decide_eq_false_iff_not, Bool.not_eq_true', Bool.not_eq_false', Bool.not_eq_eq_eq_not, Bool.not_true, Bool.not_false, Bool.and_eq_true, Bool.or_eq_true, Bool.or_eq_false_iff, beq_iff_eq, beq_eq_false_iff_ne, ne_eq, Int.not_lt, Int.not_le, Decidable.not_not] at hc115); exact hne (sp_ext (by omega) (by omega))
                      · try simp only [decide_eq_true_eq, decide_eq_false_iff_not, Bool.not_eq_true', Bool.not_eq_false', Bool.not_eq_eq_eq_not, Bool.not_true, Bool.not_false, Bool.and_eq_true, Bool.or_eq_true, Bool.or_eq_false_iff, beq_iff_eq, beq_eq_false_iff_ne, ne_eq, Int.not_lt, Int.not_le, Decidable.not_not] at hc115
                        refine g_skip ?_
                        refine g_next hK15 ?_
                        refine g_seq (fun K17 hK17 => ?_)
                        refine g_region ?_
                        refine g_step rfl (s_val (by first | exact v_loadl_all ty24 rfl rfl rfl rfl rfl | exact v_loadl_part (cs := [_, _]) ty24 rfl rfl rfl rfl rfl rfl) rfl rfl ?_)
                        refine g_step rfl (s_fieldAddr ty32 fo32_3 ty24 rfl rfl ?_)
                        refine g_step rfl (s_store (new := (encR (setSp x m.sp))) ty24 rfl rfl rfl rfl rfl rfl rfl ?_)
                        refine g_nil ?_
                        refine g_next hK17 ?_
                        refine g_seq (fun K18 hK18 => ?_)
                        refine g_region ?_
                        refine g_step rfl (s_val (v_move rfl) rfl rfl ?_)
                        refine g_step rfl (s_val (by first | exact v_loadl_all ty32 rfl rfl rfl rfl rfl | exact v_loadl_part (cs := [_, _, _, _, _, _, _]) ty32 rfl rfl rfl rfl rfl rfl) rfl rfl ?_)
                        refine g_step rfl (s_callp rfl rfl rfl (put_ok cur (setSp x m.sp) _ _ rfl (by omega) hcs hsx) ?_)
                        rintro _ rfl
                        rw [hpu]
                        refine g_step rfl (s_val (v_assign rfl) rfl rfl ?_)
                        refine g_nil ?_
                        refine g_next hK18 ?_
                        refine g_seq (fun K19 hK19 => ?_)
                        refine g_region ?_
                        refine g_step rfl (s_val (v_move rfl) rfl rfl ?_)
                        refine g_step rfl (s_callp rfl rfl rfl (speak32_ok (applyL l ((planL l t w).take (k + 1))) _ (by rw [applyL, List.length_map]; omega)) ?_)
                        rintro _ rfl
                        refine g_step rfl (s_val (v_not rfl) rfl rfl ?_)
                        refine g_step rfl (s_val (v_move rfl) rfl rfl ?_)
                        refine g_split 124 rfl (fun hg124 => ?_) (fun hg124 => ?_)
                        · exfalso; (try simp only [decide_eq_true_eq, decide_eq_false_iff_not, Bool.not_eq_true', Bool.not_eq_false', Bool.not_eq_eq_eq_not, Bool.not_true, Bool.not_false, Bool.and_eq_true, Bool.or_eq_true, Bool.or_eq_false_iff, beq_iff_eq, beq_eq_false_iff_ne, ne_eq, Int.not_lt, Int.not_le, Decidable.not_not] at hg124); simp [hsp] at hg124
                        · try simp only [decide_eq_true_eq, decide_eq_false_iff_not, Bool.not_eq_true', Bool.not_eq_false', Bool.not_eq_eq_eq_not, Bool.not_true, Bool.not_false, Bool.and_eq_true, Bool.or_eq_true, Bool.or_eq_false_iff, beq_iff_eq, beq_eq_false_iff_ne, ne_eq, Int.not_lt, Int.not_le, Decidable.not_not] at hg124
                          refine g_step_yes (j := 3) (t := 124) rfl rfl rfl rfl (s_val (v_move rfl) rfl rfl ?_)
                          refine g_step_yes (j := 3) (t := 124) rfl rfl rfl rfl (s_val (v_move rfl) rfl rfl ?_)
                          refine g_step_yes (j := 3) (t := 124) rfl rfl rfl rfl (s_val (v_move rfl) rfl rfl ?_)
                          refine g_step_yes (j := 3) (t := 124) rfl rfl rfl rfl (s_val (v_add rfl rfl (by omega)) rfl rfl ?_)
                          refine g_step_yes (j := 3) (t := 124) rfl rfl rfl rfl (s_val (v_slice_imm (lo := 0) (hi := (k + 1)) (m := (((planL l t w).take (k + 1)).map encMv)) ty35 ty42 rfl rfl rfl (by first | rfl | (exact (rfl : (0 : Int) = ((0 : Nat) : Int))) | omega | (simp <;> omega)) (by first | rfl | (exact (rfl : (0 : Int) = ((0 : Nat) : Int))) | omega | (simp <;> omega)) (by first | omega | (simp <;> omega)) (by rw [List.length_map]; omega) (by refine Even.map _ ?_ _; intro _; rfl) (by simp [List.map_take])) rfl rfl ?_)
                          refine g_step_yes (j := 3) (t := 124) rfl rfl rfl rfl (s_callp rfl rfl rfl (apply_ok l ((planL l t w).take (k + 1)) _ _ rfl (by omega) hsl (by rw [List.length_take]; omega)) ?_)
                          rintro _ rfl
                          refine g_step_yes (j := 3) (t := 124) rfl rfl rfl rfl (s_val (v_move rfl) rfl rfl ?_)
                          refine g_step_yes (j := 3) (t := 124) rfl rfl rfl rfl (s_callp rfl rfl rfl (allAlike_ok (applyL l ((planL l t w).take (k + 1))) (applyL l ((planL l t w).take (k + 1))) _ _ _ rfl rfl (by rw [applyL, List.length_map]; omega) (applyL_small hsl)) ?_)
                          rintro _ rfl
                          refine g_step_yes (j := 3) (t := 124) rfl rfl rfl rfl (s_val (v_not rfl) rfl rfl ?_)
                          refine g_step rfl (s_val (v_pick_f rfl rfl) rfl rfl ?_)
                          refine g_nil ?_
                          refine g_next hK19 ?_
                          refine g_cond rfl (fun hc134 => ?_) (fun hc134 => ?_)
                          · exfalso; (try simp only [decide_eq_true_eq, decide_eq_false_iff_not, Bool.not_eq_true', Bool.not_eq_false', Bool.not_eq_eq_eq_not, Bool.not_true, Bool.not_false, Bool.and_eq_true, Bool.or_eq_true, Bool.or_eq_false_iff, beq_iff_eq, beq_eq_false_iff_ne, ne_eq, Int.not_lt, Int.not_le, Decidable.not_not] at hc134); simp at hc134
                          · try simp only [decide_eq_true_eq, decide_eq_false_iff_not, Bool.not_eq_true', Bool.not_eq_false', Bool.not_eq_eq_eq_not, Bool.not_true, Bool.not_false, Bool.and_eq_true, Bool.or_eq_true, Bool.or_eq_false_iff, beq_iff_eq, beq_eq_false_iff_ne, ne_eq, Int.not_lt, Int.not_le, Decidable.not_not] at hc134
                            refine g_skip ?_
                            refine g_block_normal ?_
                            refine g_next hK12 ?_
                            refine g_region ?_
                            refine g_step rfl (s_val (v_move rfl) rfl rfl ?_)
                            refine g_step rfl (s_val (v_add rfl rfl (by omega)) rfl rfl ?_)
                            refine g_step rfl (s_val (v_assign rfl) rfl rfl ?_)
                            refine g_nil ?_
                            first | refine g_keep [0, 2, 7, 9, 10] [4] [4] (keep_cons rfl (keep_cons rfl (keep_cons rfl (keep_cons rfl (keep_cons rfl keep_nil))))) (lkeep_cons rfl lkeep_nil) (keep_cons rfl keep_nil) rfl ?_ | refine g_keep [0, 2, 7, 9, 10] [4] [4] rfl rfl rfl rfl ?_
                            exact g_round _ (by omega) ⟨k + 1, _, by omega, rfl, rfl, rfl, rfl, rfl, rfl⟩
                    · try simp only [decide_eq_true_eq, decide_eq_false_iff_not, Bool.not_eq_true', Bool.not_eq_false', Bool.not_eq_eq_eq_not, Bool.not_true, Bool.not_false, Bool.and_eq_true, Bool.or_eq_true, Bool.or_eq_false_iff, beq_iff_eq, beq_eq_false_iff_ne, ne_eq, Int.not_lt, Int.not_le, Decidable.not_not] at hg107
                      refine g_step_no (j := 45) (t := 107) rfl rfl rfl rfl rfl rfl rfl ?_
                      refine g_step_no (j := 45) (t := 107) rfl rfl rfl rfl rfl rfl rfl ?_
                      refine g_step_no (j := 45) (t := 107) rfl rfl rfl rfl rfl rfl rfl ?_
                      refine g_step_no (j := 45) (t := 107) rfl rfl rfl rfl rfl rfl rfl ?_
                      refine g_step_no (j := 45) (t := 107) rfl rfl rfl rfl rfl rfl rfl ?_
                      refine g_step_no (j := 45) (t := 107) rfl rfl rfl rfl rfl rfl rfl ?_
                      refine g_step_yes (j := 38) (t := 100) rfl rfl rfl rfl (s_val (v_pick_f rfl rfl) rfl rfl ?_)
                      refine g_step rfl (s_val (v_pick_f rfl rfl) rfl rfl ?_)
                      refine g_nil ?_
                      refine g_next hK16 ?_
                      first | refine g_keep [0, 2, 7, 9, 10, 115] [4, 11, 13] [4, 11, 13] (keep_cons rfl (keep_cons rfl (keep_cons rfl (keep_cons rfl (keep_cons rfl (keep_cons rfl keep_nil)))))) (lkeep_cons rfl (lkeep_cons rfl (lkeep_cons rfl lkeep_nil))) (keep_cons rfl (keep_cons rfl (keep_cons rfl keep_nil))) rfl ?_ | refine g_keep [0, 2, 7, 9, 10, 115] [4, 11, 13] [4, 11, 13] rfl rfl rfl rfl ?_
                      refine g_cond rfl (fun h => by cases h) (fun _ => ?_)
                      refine g_skip ?_
                      refine g_next hK15 ?_
                      refine g_seq (fun K20 hK20 => ?_)
                      refine g_region ?_
                      refine g_step rfl (s_val (by first | exact v_loadl_all ty24 rfl rfl rfl rfl rfl | exact v_loadl_part (cs := [_, _]) ty24 rfl rfl rfl rfl rfl rfl) rfl rfl ?_)
                      refine g_step rfl (s_fieldAddr ty32 fo32_3 ty24 rfl rfl ?_)
                      refine g_step rfl (s_store (new := (encR (setSp x m.sp))) ty24 rfl rfl rfl rfl rfl rfl rfl ?_)
                      refine g_nil ?_
                      refine g_next hK20 ?_
                      refine g_seq (fun K21 hK21 => ?_)
                      refine g_region ?_
                      refine g_step rfl (s_val (v_move rfl) rfl rfl ?_)
                      refine g_step rfl (s_val (by first | exact v_loadl_all ty32 rfl rfl rfl rfl rfl | exact v_loadl_part (cs := [_, _, _, _, _, _, _]) ty32 rfl rfl rfl rfl rfl rfl) rfl rfl ?_)
                      refine g_step rfl (s_callp rfl rfl rfl (put_ok cur (setSp x m.sp) _ _ rfl (by omega) hcs hsx) ?_)
                      rintro _ rfl
                      rw [hpu]
                      refine g_step rfl (s_val (v_assign rfl) rfl rfl ?_)
                      refine g_nil ?_
                      refine g_next hK21 ?_
                      refine g_seq (fun K22 hK22 => ?_)
                      refine g_region ?_
                      refine g_step rfl (s_val (v_move rfl) rfl rfl ?_)
                      refine g_step rfl (s_callp rfl rfl rfl (speak32_ok (applyL l ((planL l t w).take (k + 1))) _ (by rw [applyL, List.length_map]; omega)) ?_)
                      rintro _ rfl
                      refine g_step rfl (s_val (v_not rfl) rfl rfl ?_)
                      refine g_step rfl (s_val (v_move rfl) rfl rfl ?_)
                      refine g_split 124 rfl (fun hg124 => ?_) (fun hg124 => ?_)
                      · exfalso; (try simp only [decide_eq_true_eq, decide_eq_false_iff_not, Bool.not_eq_true', Bool.not_eq_false', Bool.not_eq_eq_eq_not, Bool.not_true, Bool.not_false, Bool.and_eq_true, Bool.or_eq_true, Bool.or_eq_false_iff, beq_iff_eq, beq_eq_false_iff_ne, ne_eq, Int.not_lt, Int.not_le, Decidable.not_not] at hg124); simp [hsp] at hg124
                      · try simp only [decide_eq_true_eq, decide_eq_false_iff_not, Bool.not_eq_true', Bool.not_eq_false', Bool.not_eq_eq_eq_not, Bool.not_true, Bool.not_false, Bool.and_eq_true, Bool.or_eq_true, Bool.or_eq_false_iff, beq_iff_eq, beq_eq_false_iff_ne, ne_eq, Int.not_lt, Int.not_le, Decidable.not_not] at hg124
                        refine g_step_yes (j := 3) (t := 124) rfl rfl rfl rfl (s_val (v_move rfl) rfl rfl ?_)
                        refine g_step_yes (j := 3) (t := 124) rfl rfl rfl rfl (s_val (v_move rfl) rfl rfl ?_)
                        refine g_step_yes (j := 3) (t := 124) rfl rfl rfl rfl (s_val (v_move rfl) rfl rfl ?_)
                        refine g_step_yes (j := 3) (t := 124) rfl rfl rfl rfl (s_val (v_add rfl rfl (by omega)) rfl rfl ?_)
                        refine g_step_yes (j := 3) (t := 124) rfl rfl rfl rfl (s_val (v_slice_imm (lo := 0) (hi := (k + 1)) (m := (((planL l t w).take (k + 1)).map encMv)) ty35 ty42 rfl rfl rfl (by first | rfl | (exact (rfl : (0 : Int) = ((0 : Nat) : Int))) | omega | (simp <;> omega)) (by first | rfl | (exact (rfl : (0 : Int) = ((0 : Nat) : Int))) | omega | (simp <;> omega)) (by first | omega | (simp <;> omega)) (by rw [List.length_map]; omega) (by refine Even.map _ ?_ _; intro _; rfl) (by simp [List.map_take])) rfl rfl ?_)
                        refine g_step_yes (j := 3) (t := 124) rfl rfl rfl rfl (s_callp rfl rfl rfl (apply_ok l ((planL l t w).take (k + 1)) _ _ rfl (by omega) hsl (by rw [List.length_take]; omega)) ?_)
                        rintro _ rfl
                        refine g_step_yes (j := 3) (t := 124) rfl rfl rfl rfl (s_val (v_move rfl) rfl rfl ?_)
                        refine g_step_yes (j := 3) (t := 124) rfl rfl rfl rfl (s_callp rfl rfl rfl (allAlike_ok (applyL l ((planL l t w).take (k + 1))) (applyL l ((planL l t w).take (k + 1))) _ _ _ rfl rfl (by rw [applyL, List.length_map]; omega) (applyL_small hsl)) ?_)
                        rintro _ rfl
                        refine g_step_yes (j := 3) (t := 124) rfl rfl rfl rfl (s_val (v_not rfl) rfl rfl ?_)
                        refine g_step rfl (s_val (v_pick_f rfl rfl) rfl rfl ?_)
                        refine g_nil ?_
                        refine g_next hK22 ?_
                        refine g_cond rfl (fun hc134 => ?_) (fun hc134 => ?_)
                        · exfalso; (try simp only [decide_eq_true_eq, decide_eq_false_iff_not, Bool.not_eq_true', Bool.not_eq_false', Bool.not_eq_eq_eq_not, Bool.not_true, Bool.not_false, Bool.and_eq_true, Bool.or_eq_true, Bool.or_eq_false_iff, beq_iff_eq, beq_eq_false_iff_ne, ne_eq, Int.not_lt, Int.not_le, Decidable.not_not] at hc134); simp at hc134
                        · try simp only [decide_eq_true_eq, decide_eq_false_iff_not, Bool.not_eq_true', Bool.not_eq_false', Bool.not_eq_eq_eq_not, Bool.not_true, Bool.not_false, Bool.and_eq_true, Bool.or_eq_true, Bool.or_eq_false_iff, beq_iff_eq, beq_eq_false_iff_ne, ne_eq, Int.not_lt, Int.not_le, Decidable.not_not] at hc134
                          refine g_skip ?_
                          refine g_block_normal ?_
                          refine g_next hK12 ?_
                          refine g_region ?_
                          refine g_step rfl (s_val (v_move rfl) rfl rfl ?_)
                          refine g_step rfl (s_val (v_add rfl rfl (by omega)) rfl rfl ?_)
                          refine g_step rfl (s_val (v_assign rfl) rfl rfl ?_)
                          refine g_nil ?_
                          first | refine g_keep [0, 2, 7, 9, 10] [4] [4] (keep_cons rfl (keep_cons rfl (keep_cons rfl (keep_cons rfl (keep_cons rfl keep_nil))))) (lkeep_cons rfl lkeep_nil) (keep_cons rfl keep_nil) rfl ?_ | refine g_keep [0, 2, 7, 9, 10] [4] [4] rfl rfl rfl rfl ?_
                          exact g_round _ (by omega) ⟨k + 1, _, by omega, rfl, rfl, rfl, rfl, rfl, rfl⟩
      · try simp only [decide_eq_true_eq, decide_eq_false_iff_not, Bool.not_eq_true', Bool.not_eq_false', Bool.not_eq_eq_eq_not, Bool.not_true, Bool.not_false, Bool.and_eq_true, Bool.or_eq_true, Bool.or_eq_false_iff, beq_iff_eq, beq_eq_false_iff_ne, ne_eq, Int.not_lt, Int.not_le, Decidable.not_not] at hc44
        obtain rfl : k = (planL l t w).length := by omega
        rw [List.take_length] at hcur
        have hcl : cur.length = l.length := by rw [hcur, applyL, List.length_map]
        refine g_exit ?_
        refine g_then_exit ?_
        refine g_then_exit ?_
        refine g_block_same ?_
        refine g_next hK8 ?_
        refine g_seq (fun K23 hK23 => ?_)
        refine g_seq (fun K24 hK24 => ?_)
        refine g_region ?_
        refine g_step rfl (s_val (v_assign rfl) rfl rfl ?_)
        refine g_nil ?_
        refine g_next hK24 ?_
        refine g_block ?_
        first | refine g_keep [0, 7, 9, 14] [4] [4] (keep_cons rfl (keep_cons rfl (keep_cons rfl (keep_cons rfl keep_nil)))) (lkeep_cons rfl lkeep_nil) (keep_cons rfl keep_nil) rfl ?_ | refine g_keep [0, 7, 9, 14] [4] [4] rfl rfl rfl rfl ?_
        refine g_loop (fun n env L B G => ∃ (j : Nat) , j ≤ cur.length ∧ n = cur.length - j ∧ env = [(0, encRs l), (7, .imm ((planL l t w).map encMv)), (9, (encRs cur)), (14, .int .i64 (j : Int))] ∧ L = [(4, 4, 0)] ∧ B = [(4, encSp t)] ∧ H = G ∧ True) (cur.length) ⟨0, Nat.zero_le _, rfl, rfl, rfl, rfl, rfl, trivial⟩ (fun n env L B G hI => ?_)
        obtain ⟨j, hj, rfl, rfl, rfl, rfl, rfl, hc⟩ := hI
        refine g_seq (fun K25 hK25 => ?_)
        refine g_seq (fun K26 hK26 => ?_)
        refine g_region ?_
        refine g_step rfl (s_val (v_move rfl) rfl rfl ?_)
        refine g_step rfl (s_val (v_move rfl) rfl rfl ?_)
        refine g_step rfl (s_val (v_len ty22 rfl (by first | rfl | assumption) (by first | exact List.length_map .. | rfl)) rfl rfl ?_)
        refine g_step rfl (s_val (v_lss rfl rfl) rfl rfl ?_)
        refine g_nil ?_
        refine g_next hK26 ?_
        refine g_cond rfl (fun hc138 => ?_) (fun hc138 => ?_)
        · try simp only [decide_eq_true_eq, decide_eq_false_iff_not, Bool.not_eq_true', Bool.not_eq_false', Bool.not_eq_eq_eq_not, Bool.not_true, Bool.not_false, Bool.and_eq_true, Bool.or_eq_true, Bool.or_eq_false_iff, beq_iff_eq, beq_eq_false_iff_ne, ne_eq, Int.not_lt, Int.not_le, Decidable.not_not] at hc138
          obtain ⟨y, hy⟩ := get_some (l := cur) (k := j) (by omega)
          obtain ⟨x, hxj, hyx⟩ := apply_get (by rw [← hcur]; exact hy)
          have hyf : cnt y = true → y.sp = t := plan_final hz y (by rw [← hcur]; exact mem_get hy)
          have hyi : y.id = x.id := by rw [hyx]; exact (applyR_keep _ _).1
          have hxv := valid_sp ((srt_incr z1).2 x (mem_get hxj))
          refine g_skip ?_
          refine g_next hK25 ?_
          refine g_seq (fun K27 hK27 => ?_)
          refine g_block ?_
          refine g_cut (fun env L B G => env = [(0, encRs l), (7, .imm ((planL l t w).map encMv)), (9, (encRs cur)), (14, .int .i64 (j : Int))] ∧ L = [(4, 4, 0)] ∧ B = [(4, encSp t)] ∧ H = G ∧ True) ?_ (fun env L B G hI => ?_)
          · skip
            refine g_seq (fun K28 hK28 => ?_)
            refine g_draw (n := 27) (fun j => !([] : List Nat).contains j) rfl rfl ?_
            refine m_take 0 false rfl rfl (by kernel_rfl) (by kernel_rfl) (by kernel_rfl) (fun _ _ _ _ h => h) (v_move rfl) rfl rfl ?_
            refine m_take 1 false rfl rfl (by kernel_rfl) (by kernel_rfl) (by kernel_rfl) (fun _ _ _ _ h => h) (v_move rfl) rfl rfl ?_
            refine m_take 2 false rfl rfl (by kernel_rfl) (by kernel_rfl) (by kernel_rfl) (fun _ _ _ _ h => h) (v_indexAddr ty22 ty32 rfl rfl (by first | rfl | assumption) (by first | rfl | exact (rfl : (0 : Int) = ((0 : Nat) : Int)) | exact (Int.toNat_of_nonneg (by omega)).symm) (map_get hy) rfl) rfl rfl ?_
            refine m_take 3 true rfl rfl (by kernel_rfl) (by kernel_rfl) (by kernel_rfl) (fun _ _ _ _ h => h) (by first | exact v_load_elt ty32 rfl rfl (by first | rfl | assumption) (by first | assumption | exact map_get (by assumption) | rfl) rfl rfl | exact v_load_box_all ty32 rfl rfl (by assumption) rfl rfl | exact v_load_part (cs := [_, _, _, _, _, _, _]) ty32 rfl rfl (by first | rfl | assumption) (by first | assumption | exact map_get (by assumption) | rfl) rfl rfl rfl | exact v_load_box_part (cs := [_, _, _, _, _, _, _]) ty32 rfl rfl (by assumption) rfl rfl rfl) rfl rfl ?_
            refine m_one 4 (by kernel_rfl) rfl rfl ?_
            refine sm_callp rfl rfl rfl (counts32_ok _ _) ?_
            rintro _ rfl
            refine m_take 5 false rfl rfl (by kernel_rfl) (by kernel_rfl) (by kernel_rfl) (fun _ _ _ _ h => h) (v_move rfl) rfl rfl ?_
            refine m_split 146 rfl (fun hg146 => ?_) (fun hg146 => ?_)
            · try simp only [decide_eq_true_eq, decide_eq_false_iff_not, Bool.not_eq_true', Bool.not_eq_false', Bool.not_eq_eq_eq_not, Bool.not_true, Bool.not_false, Bool.and_eq_true, Bool.or_eq_true, Bool.or_eq_false_iff, beq_iff_eq, beq_eq_false_iff_ne, ne_eq, Int.not_lt, Int.not_le, Decidable.not_not] at hg146
              refine m_take_yes (j := 5) (t := 146) 6 false rfl rfl rfl rfl rfl (by kernel_rfl) (by kernel_rfl) (by kernel_rfl) (fun _ _ _ _ h => h) (v_move rfl) rfl rfl ?_
              refine m_take_yes (j := 5) (t := 146) 7 false rfl rfl rfl rfl rfl (by kernel_rfl) (by kernel_rfl) (by kernel_rfl) (fun _ _ _ _ h => h) (v_move rfl) rfl rfl ?_
              refine m_take_yes (j := 5) (t := 146) 8 false rfl rfl rfl rfl rfl (by kernel_rfl) (by kernel_rfl) (by kernel_rfl) (fun _ _ _ _ h => h) (v_indexAddr ty22 ty32 rfl rfl (by first | rfl | assumption) (by first | rfl | exact (rfl : (0 : Int) = ((0 : Nat) : Int)) | exact (Int.toNat_of_nonneg (by omega)).symm) (by first | assumption | exact map_get (by assumption) | rfl) rfl) rfl rfl ?_
              refine m_take_yes (j := 5) (t := 146) 9 false rfl rfl rfl rfl rfl (by kernel_rfl) (by kernel_rfl) (by kernel_rfl) (fun _ _ _ _ h => h) (by first | exact v_fieldAddr ty32 fo32_3 ty24 rfl | exact v_fieldAddr_box ty32 fo32_3 ty24 rfl) rfl rfl ?_
              refine m_take_yes (j := 5) (t := 146) 10 false rfl rfl rfl rfl rfl (by kernel_rfl) (by kernel_rfl) (by kernel_rfl) (fun _ _ _ _ h => h) (by first | exact v_fieldAddr ty24 fo24_0 ty3 rfl | exact v_fieldAddr_box ty24 fo24_0 ty3 rfl) rfl rfl ?_
              refine m_take_yes (j := 5) (t := 146) 11 true rfl rfl rfl rfl rfl (by kernel_rfl) (by kernel_rfl) (by kernel_rfl) (fun _ _ _ _ h => h) (by first | exact v_load ty3 rfl rfl (by first | rfl | assumption) (by first | assumption | exact map_get (by assumption) | rfl) rfl | exact v_load_box ty3 rfl rfl (by assumption) rfl) rfl rfl ?_
              refine m_takel_yes (j := 5) (t := 146) 12 rfl rfl rfl rfl rfl (by kernel_rfl) (by kernel_rfl) (by kernel_rfl) (fun _ _ _ _ h => h) (vl_fieldAddr ty24 fo24_0 ty3 rfl) rfl rfl ?_
              refine m_take_yes (j := 5) (t := 146) 13 true rfl rfl rfl rfl rfl (by kernel_rfl) (by kernel_rfl) (by kernel_rfl) (fun _ _ _ _ h => h) (v_loadl ty3 rfl rfl rfl rfl) rfl rfl ?_
              refine m_take_yes (j := 5) (t := 146) 14 false rfl rfl rfl rfl rfl (by kernel_rfl) (by kernel_rfl) (by kernel_rfl) (fun _ _ _ _ h => h) (v_neq rfl rfl) rfl rfl ?_
              refine m_take_yes (j := 5) (t := 146) 15 false rfl rfl rfl rfl rfl (by kernel_rfl) (by kernel_rfl) (by kernel_rfl) (fun _ _ _ _ h => h) (v_move rfl) rfl rfl ?_
              refine m_split 156 rfl (fun hg156 => ?_) (fun hg156 => ?_)
              · exfalso; (try simp only [decide_eq_true_eq, decide_eq_false_iff_not, Bool.not_eq_true', Bool.not_eq_false', Bool.not_eq_eq_eq_not, Bool.not_true, Bool.not_false, Bool.and_eq_true, Bool.or_eq_true, Bool.or_eq_false_iff, beq_iff_eq, beq_eq_false_iff_ne, ne_eq, Int.not_lt, Int.not_le, Decidable.not_not] at hg156); exact hg156 (by rw [hyf hg146])
              · try simp only [decide_eq_true_eq, decide_eq_false_iff_not, Bool.not_eq_true', Bool.not_eq_false', Bool.not_eq_eq_eq_not, Bool.not_true, Bool.not_false, Bool.and_eq_true, Bool.or_eq_true, Bool.or_eq_false_iff, beq_iff_eq, beq_eq_false_iff_ne, ne_eq, Int.not_lt, Int.not_le, Decidable.not_not] at hg156
                refine m_take_yes (j := 15) (t := 156) 16 false rfl rfl rfl rfl rfl (by kernel_rfl) (by kernel_rfl) (by kernel_rfl) (fun _ _ _ _ h => h) (v_move rfl) rfl rfl ?_
                refine m_take_yes (j := 15) (t := 156) 17 false rfl rfl rfl rfl rfl (by kernel_rfl) (by kernel_rfl) (by kernel_rfl) (fun _ _ _ _ h => h) (v_move rfl) rfl rfl ?_
                refine m_take_yes (j := 15) (t := 156) 18 false rfl rfl rfl rfl rfl (by kernel_rfl) (by kernel_rfl) (by kernel_rfl) (fun _ _ _ _ h => h) (v_indexAddr ty22 ty32 rfl rfl (by first | rfl | assumption) (by first | rfl | exact (rfl : (0 : Int) = ((0 : Nat) : Int)) | exact (Int.toNat_of_nonneg (by omega)).symm) (by first | assumption | exact map_get (by assumption) | rfl) rfl) rfl rfl ?_
                refine m_take_yes (j := 15) (t := 156) 19 false rfl rfl rfl rfl rfl (by kernel_rfl) (by kernel_rfl) (by kernel_rfl) (fun _ _ _ _ h => h) (by first | exact v_fieldAddr ty32 fo32_3 ty24 rfl | exact v_fieldAddr_box ty32 fo32_3 ty24 rfl) rfl rfl ?_
                refine m_take_yes (j := 15) (t := 156) 20 false rfl rfl rfl rfl rfl (by kernel_rfl) (by kernel_rfl) (by kernel_rfl) (fun _ _ _ _ h => h) (by first | exact v_fieldAddr ty24 fo24_1 ty3 rfl | exact v_fieldAddr_box ty24 fo24_1 ty3 rfl) rfl rfl ?_
                refine m_take_yes (j := 15) (t := 156) 21 true rfl rfl rfl rfl rfl (by kernel_rfl) (by kernel_rfl) (by kernel_rfl) (fun _ _ _ _ h => h) (by first | exact v_load ty3 rfl rfl (by first | rfl | assumption) (by first | assumption | exact map_get (by assumption) | rfl) rfl | exact v_load_box ty3 rfl rfl (by assumption) rfl) rfl rfl ?_
                refine m_takel_yes (j := 15) (t := 156) 22 rfl rfl rfl rfl rfl (by kernel_rfl) (by kernel_rfl) (by kernel_rfl) (fun _ _ _ _ h => h) (vl_fieldAddr ty24 fo24_1 ty3 rfl) rfl rfl ?_
                refine m_take_yes (j := 15) (t := 156) 23 true rfl rfl rfl rfl rfl (by kernel_rfl) (by kernel_rfl) (by kernel_rfl) (fun _ _ _ _ h => h) (v_loadl ty3 rfl rfl rfl rfl) rfl rfl ?_
                refine m_take_yes (j := 15) (t := 156) 24 false rfl rfl rfl rfl rfl (by kernel_rfl) (by kernel_rfl) (by kernel_rfl) (fun _ _ _ _ h => h) (v_neq rfl rfl) rfl rfl ?_
                refine m_take_yes (j := 5) (t := 146) 25 false rfl rfl rfl rfl rfl (by kernel_rfl) (by kernel_rfl) (by kernel_rfl) (fun _ _ _ _ h => h) (v_pick_f rfl rfl) rfl rfl ?_
                refine m_take 26 false rfl rfl (by kernel_rfl) (by kernel_rfl) (by kernel_rfl) (fun _ _ _ _ h => h) (v_pick_t rfl rfl) rfl rfl ?_
                refine m_done (by kernel_rfl) ?_
                refine g_next hK28 ?_
                first | refine g_keep [0, 7, 9, 14, 167] [4] [4] (keep_cons rfl (keep_cons rfl (keep_cons rfl (keep_cons rfl (keep_cons rfl keep_nil))))) (lkeep_cons rfl lkeep_nil) (keep_cons rfl keep_nil) rfl ?_ | refine g_keep [0, 7, 9, 14, 167] [4] [4] rfl rfl rfl rfl ?_
                refine g_cond rfl (fun hc167 => ?_) (fun hc167 => ?_)
                · exfalso; (try simp only [decide_eq_true_eq, decide_eq_false_iff_not, Bool.not_eq_true', Bool.not_eq_false', Bool.not_eq_eq_eq_not, Bool.not_true, Bool.not_false, Bool.and_eq_true, Bool.or_eq_true, Bool.or_eq_false_iff, beq_iff_eq, beq_eq_false_iff_ne, ne_eq, Int.not_lt, Int.not_le, Decidable.not_not] at hc167); exact hc167 (by rw [hyf hg146])
                · try simp only [decide_eq_true_eq, decide_eq_false_iff_not, Bool.not_eq_true', Bool.not_eq_false', Bool.not_eq_eq_eq_not, Bool.not_true, Bool.not_false, Bool.and_eq_true, Bool.or_eq_true, Bool.or_eq_false_iff, beq_iff_eq, beq_eq_false_iff_ne, ne_eq, Int.not_lt, Int.not_le, Decidable.not_not] at hc167
                  refine g_skip ?_
                  first | refine g_keep [0, 7, 9, 14] [4] [4] (keep_cons rfl (keep_cons rfl (keep_cons rfl (keep_cons rfl keep_nil)))) (lkeep_cons rfl lkeep_nil) (keep_cons rfl keep_nil) rfl ?_ | refine g_keep [0, 7, 9, 14] [4] [4] rfl rfl rfl rfl ?_
                  exact g_has ⟨rfl, rfl, rfl, rfl, trivial⟩
            · try simp only [decide_eq_true_eq, decide_eq_false_iff_not, Bool.not_eq_true', Bool.not_eq_false', Bool.not_eq_eq_eq_not, Bool.not_true, Bool.not_false, Bool.and_eq_true, Bool.or_eq_true, Bool.or_eq_false_iff, beq_iff_eq, beq_eq_false_iff_ne, ne_eq, Int.not_lt, Int.not_le, Decidable.not_not] at hg146
              refine m_take_no (j := 5) (t := 146) 6 rfl rfl rfl rfl rfl rfl (by kernel_rfl) (by kernel_rfl) (by kernel_rfl) (fun _ _ _ _ h => h) rfl rfl ?_
              refine m_take_no (j := 5) (t := 146) 7 rfl rfl rfl rfl rfl rfl (by kernel_rfl) (by kernel_rfl) (by kernel_rfl) (fun _ _ _ _ h => h) rfl rfl ?_
              refine m_take_no (j := 5) (t := 146) 8 rfl rfl rfl rfl rfl rfl (by kernel_rfl) (by kernel_rfl) (by kernel_rfl) (fun _ _ _ _ h => h) rfl rfl ?_
              refine m_take_no (j := 5) (t := 146) 9 rfl rfl rfl rfl rfl rfl (by kernel_rfl) (by kernel_rfl) (by kernel_rfl) (fun _ _ _ _ h => h) rfl rfl ?_
              refine m_take_no (j := 5) (t := 146) 10 rfl rfl rfl rfl rfl rfl (by kernel_rfl) (by kernel_rfl) (by kernel_rfl) (fun _ _ _ _ h => h) rfl rfl ?_
              refine m_take_no (j := 5) (t := 146) 11 rfl rfl rfl rfl rfl rfl (by kernel_rfl) (by kernel_rfl) (by kernel_rfl) (fun _ _ _ _ h => h) rfl rfl ?_
              refine m_take_no (j := 5) (t := 146) 12 rfl rfl rfl rfl rfl rfl (by kernel_rfl) (by kernel_rfl) (by kernel_rfl) (fun _ _ _ _ h => h) rfl rfl ?_
              refine m_take_no (j := 5) (t := 146) 13 rfl rfl rfl rfl rfl rfl (by kernel_rfl) (by kernel_rfl) (by kernel_rfl) (fun _ _ _ _ h => h) rfl rfl ?_
              refine m_take_no (j := 5) (t := 146) 14 rfl rfl rfl rfl rfl rfl (by kernel_rfl) (by kernel_rfl) (by kernel_rfl) (fun _ _ _ _ h => h) rfl rfl ?_
              refine m_take_no (j := 5) (t := 146) 15 rfl rfl rfl rfl rfl rfl (by kernel_rfl) (by kernel_rfl) (by kernel_rfl) (fun _ _ _ _ h => h) rfl rfl ?_
              refine m_take_und (j := 15) (t := 156) 16 rfl rfl rfl rfl rfl (by kernel_rfl) (by kernel_rfl) (by kernel_rfl) (fun _ _ _ _ h => h) rfl rfl ?_
              refine m_take_und (j := 15) (t := 156) 17 rfl rfl rfl rfl rfl (by kernel_rfl) (by kernel_rfl) (by kernel_rfl) (fun _ _ _ _ h => h) rfl rfl ?_
              refine m_take_und (j := 15) (t := 156) 18 rfl rfl rfl rfl rfl (by kernel_rfl) (by kernel_rfl) (by kernel_rfl) (fun _ _ _ _ h => h) rfl rfl ?_
              refine m_take_und (j := 15) (t := 156) 19 rfl rfl rfl rfl rfl (by kernel_rfl) (by kernel_rfl) (by kernel_rfl) (fun _ _ _ _ h => h) rfl rfl ?_
              refine m_take_und (j := 15) (t := 156) 20 rfl rfl rfl rfl rfl (by kernel_rfl) (by kernel_rfl) (by kernel_rfl) (fun _ _ _ _ h => h) rfl rfl ?_
              refine m_take_und (j := 15) (t := 156) 21 rfl rfl rfl rfl rfl (by kernel_rfl) (by kernel_rfl) (by kernel_rfl) (fun _ _ _ _ h => h) rfl rfl ?_
              refine m_take_und (j := 15) (t := 156) 22 rfl rfl rfl rfl rfl (by kernel_rfl) (by kernel_rfl) (by kernel_rfl) (fun _ _ _ _ h => h) rfl rfl ?_
              refine m_take_und (j := 15) (t := 156) 23 rfl rfl rfl rfl rfl (by kernel_rfl) (by kernel_rfl) (by kernel_rfl) (fun _ _ _ _ h => h) rfl rfl ?_
              refine m_take_und (j := 15) (t := 156) 24 rfl rfl rfl rfl rfl (by kernel_rfl) (by kernel_rfl) (by kernel_rfl) (fun _ _ _ _ h => h) rfl rfl ?_
              refine m_take_no (j := 5) (t := 146) 25 rfl rfl rfl rfl rfl rfl (by kernel_rfl) (by kernel_rfl) (by kernel_rfl) (fun _ _ _ _ h => h) rfl rfl ?_
              refine m_take 26 false rfl rfl (by kernel_rfl) (by kernel_rfl) (by kernel_rfl) (fun _ _ _ _ h => h) (v_pick_f rfl rfl) rfl rfl ?_
              refine m_done (by kernel_rfl) ?_
              refine g_next hK28 ?_
              first | refine g_keep [0, 7, 9, 14, 167] [4] [4] (keep_cons rfl (keep_cons rfl (keep_cons rfl (keep_cons rfl (keep_cons rfl keep_nil))))) (lkeep_cons rfl lkeep_nil) (keep_cons rfl keep_nil) rfl ?_ | refine g_keep [0, 7, 9, 14, 167] [4] [4] rfl rfl rfl rfl ?_
              refine g_cond rfl (fun h => by cases h) (fun _ => ?_)
              refine g_skip ?_
              first | refine g_keep [0, 7, 9, 14] [4] [4] (keep_cons rfl (keep_cons rfl (keep_cons rfl (keep_cons rfl keep_nil)))) (lkeep_cons rfl lkeep_nil) (keep_cons rfl keep_nil) rfl ?_ | refine g_keep [0, 7, 9, 14] [4] [4] rfl rfl rfl rfl ?_
              exact g_has ⟨rfl, rfl, rfl, rfl, trivial⟩
          · skip
            obtain ⟨rfl, rfl, rfl, rfl, hu⟩ := hI
            refine g_seq (fun K29 hK29 => ?_)
            refine g_region ?_
            refine g_step rfl (s_val (v_assign rfl) rfl rfl ?_)
            refine g_nil ?_
            refine g_next hK29 ?_
            refine g_seq (fun K30 hK30 => ?_)
            refine g_seq (fun K31 hK31 => ?_)
            refine g_region ?_
            refine g_step rfl (s_val (v_assign rfl) rfl rfl ?_)
            refine g_nil ?_
            refine g_next hK31 ?_
            refine g_block ?_
            first | refine g_keep [0, 7, 9, 14, 15, 16] [4] [4] (keep_cons rfl (keep_cons rfl (keep_cons rfl (keep_cons rfl (keep_cons rfl (keep_cons rfl keep_nil)))))) (lkeep_cons rfl lkeep_nil) (keep_cons rfl keep_nil) rfl ?_ | refine g_keep [0, 7, 9, 14, 15, 16] [4] [4] rfl rfl rfl rfl ?_
            refine g_loop (fun n env L B G => ∃ (i : Nat) (c : Int), i ≤ (planL l t w).length ∧ n = (planL l t w).length - i ∧ env = [(0, encRs l), (7, .imm ((planL l t w).map encMv)), (9, (encRs cur)), (14, .int .i64 (j : Int)), (15, .int .i64 c), (16, .int .i64 (i : Int))] ∧ L = [(4, 4, 0)] ∧ B = [(4, encSp t)] ∧ H = G ∧ c = ((((planL l t w).take i).filter (fun m => decide (m.id = y.id))).length : Nat)) ((planL l t w).length) ⟨0, 0, Nat.zero_le _, rfl, rfl, rfl, rfl, rfl, rfl⟩ (fun n env L B G hI => ?_)
            obtain ⟨i, c, hi, rfl, rfl, rfl, rfl, rfl, hc⟩ := hI
            refine g_seq (fun K32 hK32 => ?_)
            refine g_seq (fun K33 hK33 => ?_)
            refine g_region ?_
            refine g_step rfl (s_val (v_move rfl) rfl rfl ?_)
            refine g_step rfl (s_val (v_move rfl) rfl rfl ?_)
            refine g_step rfl (s_val (v_len ty35 rfl (by first | rfl | assumption) (by first | exact List.length_map .. | rfl)) rfl rfl ?_)
            refine g_step rfl (s_val (v_lss rfl rfl) rfl rfl ?_)
            refine g_nil ?_
            refine g_next hK33 ?_
            refine g_cond rfl (fun hc171 => ?_) (fun hc171 => ?_)
            · try simp only [decide_eq_true_eq, decide_eq_false_iff_not, Bool.not_eq_true', Bool.not_eq_false', Bool.not_eq_eq_eq_not, Bool.not_true, Bool.not_false, Bool.and_eq_true, Bool.or_eq_true, Bool.or_eq_false_iff, beq_iff_eq, beq_eq_false_iff_ne, ne_eq, Int.not_lt, Int.not_le, Decidable.not_not] at hc171
              obtain ⟨m, hm⟩ := get_some (l := (planL l t w)) (k := i) (by omega)
              have hfl := List.length_filter_le (fun m => decide (m.id = y.id)) ((planL l t w).take i)
              rw [List.length_take] at hfl
              refine g_skip ?_
              refine g_next hK32 ?_
              refine g_seq (fun K34 hK34 => ?_)
              refine g_block ?_
              refine g_seq (fun K35 hK35 => ?_)
              refine g_draw (n := 11) (fun j => !([] : List Nat).contains j) rfl rfl ?_
              refine m_take 0 false rfl rfl (by kernel_rfl) (by kernel_rfl) (by kernel_rfl) (fun _ _ _ _ h => h) (v_move rfl) rfl rfl ?_
              refine m_take 1 false rfl rfl (by kernel_rfl) (by kernel_rfl) (by kernel_rfl) (fun _ _ _ _ h => h) (v_move rfl) rfl rfl ?_
              refine m_take 2 false rfl rfl (by kernel_rfl) (by kernel_rfl) (by kernel_rfl) (fun _ _ _ _ h => h) (v_indexAddr ty35 ty42 rfl rfl (by first | rfl | assumption) (by first | rfl | exact (rfl : (0 : Int) = ((0 : Nat) : Int)) | exact (Int.toNat_of_nonneg (by omega)).symm) (map_get hm) rfl) rfl rfl ?_
              refine m_take 3 false rfl rfl (by kernel_rfl) (by kernel_rfl) (by kernel_rfl) (fun _ _ _ _ h => h) (by first | exact v_fieldAddr ty42 fo42_0 ty3 rfl | exact v_fieldAddr_box ty42 fo42_0 ty3 rfl) rfl rfl ?_
              refine m_take 4 true rfl rfl (by kernel_rfl) (by kernel_rfl) (by kernel_rfl) (fun _ _ _ _ h => h) (by first | exact v_load ty3 rfl rfl (by first | rfl | assumption) (map_get hm) rfl | exact v_load_box ty3 rfl rfl (by assumption) rfl) rfl rfl ?_
              refine m_take 5 false rfl rfl (by kernel_rfl) (by kernel_rfl) (by kernel_rfl) (fun _ _ _ _ h => h) (v_move rfl) rfl rfl ?_
              refine m_take 6 false rfl rfl (by kernel_rfl) (by kernel_rfl) (by kernel_rfl) (fun _ _ _ _ h => h) (v_move rfl) rfl rfl ?_
              refine m_take 7 false rfl rfl (by kernel_rfl) (by kernel_rfl) (by kernel_rfl) (fun _ _ _ _ h => h) (v_indexAddr ty22 ty32 rfl rfl (by first | rfl | assumption) (by first | rfl | exact (rfl : (0 : Int) = ((0 : Nat) : Int)) | exact (Int.toNat_of_nonneg (by omega)).symm) (map_get hy) rfl) rfl rfl ?_
              refine m_take 8 false rfl rfl (by kernel_rfl) (by kernel_rfl) (by kernel_rfl) (fun _ _ _ _ h => h) (by first | exact v_fieldAddr ty32 fo32_0 ty3 rfl | exact v_fieldAddr_box ty32 fo32_0 ty3 rfl) rfl rfl ?_
              refine m_take 9 true rfl rfl (by kernel_rfl) (by kernel_rfl) (by kernel_rfl) (fun _ _ _ _ h => h) (by first | exact v_load ty3 rfl rfl (by first | rfl | assumption) (map_get hy) rfl | exact v_load_box ty3 rfl rfl (by assumption) rfl) rfl rfl ?_
              refine m_take 10 false rfl rfl (by kernel_rfl) (by kernel_rfl) (by kernel_rfl) (fun _ _ _ _ h => h) (v_eql rfl rfl) rfl rfl ?_
              refine m_done (by kernel_rfl) ?_
              refine g_next hK35 ?_
              refine g_cond rfl (fun hc184 => ?_) (fun hc184 => ?_)
              · try simp only [decide_eq_true_eq, decide_eq_false_iff_not, Bool.not_eq_true', Bool.not_eq_false', Bool.not_eq_eq_eq_not, Bool.not_true, Bool.not_false, Bool.and_eq_true, Bool.or_eq_true, Bool.or_eq_false_iff, beq_iff_eq, beq_eq_false_iff_ne, ne_eq, Int.not_lt, Int.not_le, Decidable.not_not] at hc184
                refine g_region ?_
                refine g_step rfl (s_val (v_move rfl) rfl rfl ?_)
                refine g_step rfl (s_val (v_add rfl rfl (by omega)) rfl rfl ?_)
                refine g_step rfl (s_val (v_assign rfl) rfl rfl ?_)
                refine g_nil ?_
                refine g_block_normal ?_
                refine g_next hK34 ?_
                refine g_region ?_
                refine g_step rfl (s_val (v_move rfl) rfl rfl ?_)
                refine g_step rfl (s_val (v_add rfl rfl (by omega)) rfl rfl ?_)
                refine g_step rfl (s_val (v_assign rfl) rfl rfl ?_)
                refine g_nil ?_
                first | refine g_keep [0, 7, 9, 14, 15, 16] [4] [4] (keep_cons rfl (keep_cons rfl (keep_cons rfl (keep_cons rfl (keep_cons rfl (keep_cons rfl keep_nil)))))) (lkeep_cons rfl lkeep_nil) (keep_cons rfl keep_nil) rfl ?_ | refine g_keep [0, 7, 9, 14, 15, 16] [4] [4] rfl rfl rfl rfl ?_
                first | exact g_round _ (by omega) ⟨i + 1, c + 1, by omega, rfl, rfl, rfl, rfl, rfl, by rw [filter_snoc hm, if_pos (by simpa using hc184), List.length_append, hc]; rfl⟩ | exact g_round _ (by omega) ⟨i + 1, c, by omega, rfl, rfl, rfl, rfl, rfl, by rw [filter_snoc hm, if_neg (by simpa using hc184), List.append_nil]; exact hc⟩
              · try simp only [decide_eq_true_eq, decide_eq_false_iff_not, Bool.not_eq_true', Bool.not_eq_false', Bool.not_eq_eq_eq_not, Bool.not_true, Bool.not_false, Bool.and_eq_true, Bool.or_eq_true, Bool.or_eq_false_iff, beq_iff_eq, beq_eq_false_iff_ne, ne_eq, Int.not_lt, Int.not_le, Decidable.not_not] at hc184
                refine g_skip ?_
                refine g_block_normal ?_
                refine g_next hK34 ?_
                refine g_region ?_
                refine g_step rfl (s_val (v_move rfl) rfl rfl ?_)
                refine g_step rfl (s_val (v_add rfl rfl (by omega)) rfl rfl ?_)
                refine g_step rfl (s_val (v_assign rfl) rfl rfl ?_)
                refine g_nil ?_
                first | refine g_keep [0, 7, 9, 14, 15, 16] [4] [4] (keep_cons rfl (keep_cons rfl (keep_cons rfl (keep_cons rfl (keep_cons rfl (keep_cons rfl keep_nil)))))) (lkeep_cons rfl lkeep_nil) (keep_cons rfl keep_nil) rfl ?_ | refine g_keep [0, 7, 9, 14, 15, 16] [4] [4] rfl rfl rfl rfl ?_
                first | exact g_round _ (by omega) ⟨i + 1, c + 1, by omega, rfl, rfl, rfl, rfl, rfl, by rw [filter_snoc hm, if_pos (by simpa using hc184), List.length_append, hc]; rfl⟩ | exact g_round _ (by omega) ⟨i + 1, c, by omega, rfl, rfl, rfl, rfl, rfl, by rw [filter_snoc hm, if_neg (by simpa using hc184), List.append_nil]; exact hc⟩
            · try simp only [decide_eq_true_eq, decide_eq_false_iff_not, Bool.not_eq_true', Bool.not_eq_false', Bool.not_eq_eq_eq_not, Bool.not_true, Bool.not_false, Bool.and_eq_true, Bool.or_eq_true, Bool.or_eq_false_iff, beq_iff_eq, beq_eq_false_iff_ne, ne_eq, Int.not_lt, Int.not_le, Decidable.not_not] at hc171
              obtain rfl : i = (planL l t w).length := by omega
              rw [List.take_length] at hc
              refine g_exit ?_
              refine g_then_exit ?_
              refine g_then_exit ?_
              refine g_block_same ?_
              refine g_next hK30 ?_
              refine g_seq (fun K36 hK36 => ?_)
              refine g_draw (n := 19) (fun j => !([] : List Nat).contains j) rfl rfl ?_
              refine m_take 0 false rfl rfl (by kernel_rfl) (by kernel_rfl) (by kernel_rfl) (fun _ _ _ _ h => h) (v_move rfl) rfl rfl ?_
              refine m_takel 1 rfl rfl (by kernel_rfl) (by kernel_rfl) (by kernel_rfl) (fun _ _ _ _ h => h) (vl_fieldAddr ty24 fo24_1 ty3 rfl) rfl rfl ?_
              refine m_take 2 true rfl rfl (by kernel_rfl) (by kernel_rfl) (by kernel_rfl) (fun _ _ _ _ h => h) (v_loadl ty3 rfl rfl rfl rfl) rfl rfl ?_
              refine m_take 3 false rfl rfl (by kernel_rfl) (by kernel_rfl) (by kernel_rfl) (fun _ _ _ _ h => h) (v_move rfl) rfl rfl ?_
              refine m_take 4 false rfl rfl (by kernel_rfl) (by kernel_rfl) (by kernel_rfl) (fun _ _ _ _ h => h) (v_move rfl) rfl rfl ?_
              refine m_take 5 false rfl rfl (by kernel_rfl) (by kernel_rfl) (by kernel_rfl) (fun _ _ _ _ h => h) (v_indexAddr ty22 ty32 rfl rfl (by first | rfl | assumption) (by first | rfl | exact (rfl : (0 : Int) = ((0 : Nat) : Int)) | exact (Int.toNat_of_nonneg (by omega)).symm) (map_get hxj) rfl) rfl rfl ?_
              refine m_take 6 false rfl rfl (by kernel_rfl) (by kernel_rfl) (by kernel_rfl) (fun _ _ _ _ h => h) (by first | exact v_fieldAddr ty32 fo32_3 ty24 rfl | exact v_fieldAddr_box ty32 fo32_3 ty24 rfl) rfl rfl ?_
              refine m_take 7 false rfl rfl (by kernel_rfl) (by kernel_rfl) (by kernel_rfl) (fun _ _ _ _ h => h) (by first | exact v_fieldAddr ty24 fo24_1 ty3 rfl | exact v_fieldAddr_box ty24 fo24_1 ty3 rfl) rfl rfl ?_
              refine m_take 8 true rfl rfl (by kernel_rfl) (by kernel_rfl) (by kernel_rfl) (fun _ _ _ _ h => h) (by first | exact v_load ty3 rfl rfl (by first | rfl | assumption) (map_get hxj) rfl | exact v_load_box ty3 rfl rfl (by assumption) rfl) rfl rfl ?_
              refine m_take 9 false rfl rfl (by kernel_rfl) (by kernel_rfl) (by kernel_rfl) (fun _ _ _ _ h => h) (v_sub_ rfl rfl (by omega)) rfl rfl ?_
              refine m_take 10 false rfl rfl (by kernel_rfl) (by kernel_rfl) (by kernel_rfl) (fun _ _ _ _ h => h) (v_add rfl rfl (by omega)) rfl rfl ?_
              refine m_take 11 false rfl rfl (by kernel_rfl) (by kernel_rfl) (by kernel_rfl) (fun _ _ _ _ h => h) (v_gtr rfl rfl) rfl rfl ?_
              refine m_take 12 false rfl rfl (by kernel_rfl) (by kernel_rfl) (by kernel_rfl) (fun _ _ _ _ h => h) (v_move rfl) rfl rfl ?_
              refine m_split 199 rfl (fun hg199 => ?_) (fun hg199 => ?_)
              · try simp only [decide_eq_true_eq, decide_eq_false_iff_not, Bool.not_eq_true', Bool.not_eq_false', Bool.not_eq_eq_eq_not, Bool.not_true, Bool.not_false, Bool.and_eq_true, Bool.or_eq_true, Bool.or_eq_false_iff, beq_iff_eq, beq_eq_false_iff_ne, ne_eq, Int.not_lt, Int.not_le, Decidable.not_not] at hg199
                refine m_take_yes (j := 12) (t := 199) 13 false rfl rfl rfl rfl rfl (by kernel_rfl) (by kernel_rfl) (by kernel_rfl) (fun _ _ _ _ h => h) (v_move rfl) rfl rfl ?_
                refine m_take_yes (j := 12) (t := 199) 14 false rfl rfl rfl rfl rfl (by kernel_rfl) (by kernel_rfl) (by kernel_rfl) (fun _ _ _ _ h => h) (v_move rfl) rfl rfl ?_
                refine m_take_yes (j := 12) (t := 199) 15 false rfl rfl rfl rfl rfl (by kernel_rfl) (by kernel_rfl) (by kernel_rfl) (fun _ _ _ _ h => h) (v_indexAddr ty22 ty32 rfl rfl (by first | rfl | assumption) (by first | rfl | exact (rfl : (0 : Int) = ((0 : Nat) : Int)) | exact (Int.toNat_of_nonneg (by omega)).symm) (map_get hxj) rfl) rfl rfl ?_
                refine m_take_yes (j := 12) (t := 199) 16 true rfl rfl rfl rfl rfl (by kernel_rfl) (by kernel_rfl) (by kernel_rfl) (fun _ _ _ _ h => h) (by first | exact v_load_elt ty32 rfl rfl (by first | rfl | assumption) (map_get hxj) rfl rfl | exact v_load_box_all ty32 rfl rfl (by assumption) rfl rfl | exact v_load_part (cs := [_, _, _, _, _, _, _]) ty32 rfl rfl (by first | rfl | assumption) (map_get hxj) rfl rfl rfl | exact v_load_box_part (cs := [_, _, _, _, _, _, _]) ty32 rfl rfl (by assumption) rfl rfl rfl) rfl rfl ?_
                refine m_one_yes (j := 12) (t := 199) 17 (by kernel_rfl) rfl rfl rfl rfl rfl ?_
                refine sm_callp rfl rfl rfl (counts32_ok _ _) ?_
                rintro _ rfl
                refine m_take 18 false rfl rfl (by kernel_rfl) (by kernel_rfl) (by kernel_rfl) (fun _ _ _ _ h => h) (v_pick_t rfl rfl) rfl rfl ?_
                refine m_done (by kernel_rfl) ?_
                refine g_next hK36 ?_
                first | refine g_keep [0, 7, 9, 14, 205] [4] [4] (keep_cons rfl (keep_cons rfl (keep_cons rfl (keep_cons rfl (keep_cons rfl keep_nil))))) (lkeep_cons rfl lkeep_nil) (keep_cons rfl keep_nil) rfl ?_ | refine g_keep [0, 7, 9, 14, 205] [4] [4] rfl rfl rfl rfl ?_
                refine g_cond rfl (fun hc205 => ?_) (fun hc205 => ?_)
                · exfalso; (try simp only [decide_eq_true_eq, decide_eq_false_iff_not, Bool.not_eq_true', Bool.not_eq_false', Bool.not_eq_eq_eq_not, Bool.not_true, Bool.not_false, Bool.and_eq_true, Bool.or_eq_true, Bool.or_eq_false_iff, beq_iff_eq, beq_eq_false_iff_ne, ne_eq, Int.not_lt, Int.not_le, Decidable.not_not] at hc205); have h9 := plan_count hz hxj (by first | assumption | simp_all); rw [← hyi] at h9; omega
                · try simp only [decide_eq_true_eq, decide_eq_false_iff_not, Bool.not_eq_true', Bool.not_eq_false', Bool.not_eq_eq_eq_not, Bool.not_true, Bool.not_false, Bool.and_eq_true, Bool.or_eq_true, Bool.or_eq_false_iff, beq_iff_eq, beq_eq_false_iff_ne, ne_eq, Int.not_lt, Int.not_le, Decidable.not_not] at hc205
                  refine g_skip ?_
                  refine g_block_normal ?_
                  refine g_next hK27 ?_
                  refine g_region ?_
                  refine g_step rfl (s_val (v_move rfl) rfl rfl ?_)
                  refine g_step rfl (s_val (v_add rfl rfl (by omega)) rfl rfl ?_)
                  refine g_step rfl (s_val (v_assign rfl) rfl rfl ?_)
                  refine g_nil ?_
                  first | refine g_keep [0, 7, 9, 14] [4] [4] (keep_cons rfl (keep_cons rfl (keep_cons rfl (keep_cons rfl keep_nil)))) (lkeep_cons rfl lkeep_nil) (keep_cons rfl keep_nil) rfl ?_ | refine g_keep [0, 7, 9, 14] [4] [4] rfl rfl rfl rfl ?_
                  exact g_round _ (by omega) ⟨j + 1, by omega, rfl, rfl, rfl, rfl, rfl, trivial⟩
              · try simp only [decide_eq_true_eq, decide_eq_false_iff_not, Bool.not_eq_true', Bool.not_eq_false', Bool.not_eq_eq_eq_not, Bool.not_true, Bool.not_false, Bool.and_eq_true, Bool.or_eq_true, Bool.or_eq_false_iff, beq_iff_eq, beq_eq_false_iff_ne, ne_eq, Int.not_lt, Int.not_le, Decidable.not_not] at hg199
                refine m_take_no (j := 12) (t := 199) 13 rfl rfl rfl rfl rfl rfl (by kernel_rfl) (by kernel_rfl) (by kernel_rfl) (fun _ _ _ _ h => h) rfl rfl ?_
                refine m_take_no (j := 12) (t := 199) 14 rfl rfl rfl rfl rfl rfl (by kernel_rfl) (by kernel_rfl) (by kernel_rfl) (fun _ _ _ _ h => h) rfl rfl ?_
                refine m_take_no (j := 12) (t := 199) 15 rfl rfl rfl rfl rfl rfl (by kernel_rfl) (by kernel_rfl) (by kernel_rfl) (fun _ _ _ _ h => h) rfl rfl ?_
                refine m_take_no (j := 12) (t := 199) 16 rfl rfl rfl rfl rfl rfl (by kernel_rfl) (by kernel_rfl) (by kernel_rfl) (fun _ _ _ _ h => h) rfl rfl ?_
                refine m_take_no (j := 12) (t := 199) 17 rfl rfl rfl rfl rfl rfl (by kernel_rfl) (by kernel_rfl) (by kernel_rfl) (fun _ _ _ _ h => h) rfl rfl ?_
                refine m_take 18 false rfl rfl (by kernel_rfl) (by kernel_rfl) (by kernel_rfl) (fun _ _ _ _ h => h) (v_pick_f rfl rfl) rfl rfl ?_
                refine m_done (by kernel_rfl) ?_
                refine g_next hK36 ?_
                first | refine g_keep [0, 7, 9, 14, 205] [4] [4] (keep_cons rfl (keep_cons rfl (keep_cons rfl (keep_cons rfl (keep_cons rfl keep_nil))))) (lkeep_cons rfl lkeep_nil) (keep_cons rfl keep_nil) rfl ?_ | refine g_keep [0, 7, 9, 14, 205] [4] [4] rfl rfl rfl rfl ?_
                refine g_cond rfl (fun h => by cases h) (fun _ => ?_)
                refine g_skip ?_
                refine g_block_normal ?_
                refine g_next hK27 ?_
                refine g_region ?_
                refine g_step rfl (s_val (v_move rfl) rfl rfl ?_)
                refine g_step rfl (s_val (v_add rfl rfl (by omega)) rfl rfl ?_)
                refine g_step rfl (s_val (v_assign rfl) rfl rfl ?_)
                refine g_nil ?_
                first | refine g_keep [0, 7, 9, 14] [4] [4] (keep_cons rfl (keep_cons rfl (keep_cons rfl (keep_cons rfl keep_nil)))) (lkeep_cons rfl lkeep_nil) (keep_cons rfl keep_nil) rfl ?_ | refine g_keep [0, 7, 9, 14] [4] [4] rfl rfl rfl rfl ?_
                exact g_round _ (by omega) ⟨j + 1, by omega, rfl, rfl, rfl, rfl, rfl, trivial⟩
        · try simp only [decide_eq_true_eq, decide_eq_false_iff_not, Bool.not_eq_true', Bool.not_eq_false', Bool.not_eq_eq_eq_not, Bool.not_true, Bool.not_false, Bool.and_eq_true, Bool.or_eq_true, Bool.or_eq_false_iff, beq_iff_eq, beq_eq_false_iff_ne, ne_eq, Int.not_lt, Int.not_le, Decidable.not_not] at hc138
          obtain rfl : j = cur.length := by omega
          refine g_exit ?_
          refine g_then_exit ?_
          refine g_then_exit ?_
          refine g_block_same ?_
          refine g_next hK23 ?_
          refine g_seq (fun K37 hK37 => ?_)
          refine g_region ?_
          refine g_step rfl (s_callp rfl rfl rfl (awake32_ok _) ?_)
          rintro _ rfl
          refine g_step rfl (s_val (v_assign rfl) rfl rfl ?_)
          refine g_nil ?_
          refine g_next hK37 ?_
          refine g_ret ?_
          refine g_end1 (.inl rfl) Try.results6 (.tmp rfl) [] (ASub.refl _) (AHeap.sub_refl _) (fun p hp => by cases hp) ⟨rfl, ?_⟩
          rfl

end Go.Proofs.Ytgedefcjngofkaa

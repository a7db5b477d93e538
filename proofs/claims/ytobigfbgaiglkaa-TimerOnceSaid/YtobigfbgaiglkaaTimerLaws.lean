import Derived.Test.YtobigfbgaiglkaaTimer
set_option maxHeartbeats 8000000
set_option linter.unusedSimpArgs false
set_option linter.unusedVariables false
set_option maxRecDepth 100000
namespace Go.Proofs.Ytobigfbgaiglkaa
open Go Go.Proofs.Ytobigfbgaiglkaa.AM
theorem awake21_ok (G : AHeap) : PCalls Try.prog 11 [] G (fun r => r = .bool true) := by
  refine LCalls.intro 40 fi11 rfl Try.ntmps11 rfl (fun _ h => h.elim) (fun H hH w0 hw0 => ?_)
  refine g_seq (fun K0 hK0 => ?_)
  refine g_region ?_
  refine g_step rfl (s_val (v_assign rfl) rfl rfl ?_)
  refine g_nil ?_
  refine g_next hK0 ?_
  refine g_seq (fun K1 hK1 => ?_)
  refine g_region ?_
  refine g_step rfl (s_call rfl rfl rfl (tmNew_ok _) (fun _ h => h.elim) ?_)
  rintro n1 r1 effs1 hn1 hdom1 ⟨p, r, hp1, hr1, hpr_p, rfl, rfl⟩ hok1
  have hw_p : w0.heap.size ≤ p := Nat.le_trans hn1 hp1
  have hw_r : w0.heap.size ≤ r := Nat.le_trans hn1 hr1
  have hz0_p := sub_none (AHeap.sub_refl _) (hdom1 _ hp1)
  have hz0_r := sub_none (AHeap.sub_refl _) (hdom1 _ hr1)
  generalize hE_G1 : setAll H [(p, .box (.agg [.map r])), (r, tmRow [])] = G1
  have hs_G1 : H.sub G1 := by rw [← hE_G1]; exact sub_set' (sub_set' (AHeap.sub_refl _) hz0_r) hz0_p
  have hq_G1_p : G1 p = some (.box (.agg [.map r])) := by rw [← hE_G1]; exact AHeap.get_set _ _ _
  have hq_G1_r : G1 r = some (tmRow []) := by rw [← hE_G1]; exact (AHeap.get_set_ne _ _ (Ne.symm hpr_p)).trans (AHeap.get_set _ _ _)
  refine g_step rfl (s_val (v_assign rfl) rfl rfl ?_)
  refine g_nil ?_
  refine g_next hK1 ?_
  refine g_seq (fun K2 hK2 => ?_)
  refine g_region ?_
  refine g_step rfl (s_val (v_move rfl) rfl rfl ?_)
  refine g_step rfl (s_call rfl rfl rfl (tmSet_ok p r [] 4 1 10 _ hq_G1_p hq_G1_r) (fun b hb => .inr (by subst hb; exact hw_r)) ?_)
  rintro n2 r2 effs2 hn2 hdom2 ⟨rfl, rfl⟩ hok2
  generalize hE_G2 : setAll G1 [(r, tmRow (pput [] 4 ⟨4, 1, 10⟩))] = G2
  have hs_G2 : H.sub G2 := by rw [← hE_G2]; exact sub_set' hs_G1 hz0_r
  have hq_G2_r : G2 r = some (tmRow (pput [] 4 ⟨4, 1, 10⟩)) := by rw [← hE_G2]; exact AHeap.get_set _ _ _
  have hq_G2_p : G2 p = some (.box (.agg [.map r])) := by rw [← hE_G2]; exact (AHeap.get_set_ne _ _ hpr_p).trans hq_G1_p
  refine g_nil ?_
  refine g_next hK2 ?_
  refine g_seq (fun K3 hK3 => ?_)
  refine g_region ?_
  refine g_step rfl (s_val (v_move rfl) rfl rfl ?_)
  refine g_step rfl (s_call rfl rfl rfl (tmSet_ok p r (pput [] 4 ⟨4, 1, 10⟩) 2 0 9 _ hq_G2_p hq_G2_r) (fun b hb => .inr (by subst hb; exact hw_r)) ?_)
  rintro n3 r3 effs3 hn3 hdom3 ⟨rfl, rfl⟩ hok3
  generalize hE_G3 : setAll G2 [(r, tmRow (pput (pput [] 4 ⟨4, 1, 10⟩) 2 ⟨2, 0, 9⟩))] = G3
  have hs_G3 : H.sub G3 := by rw [← hE_G3]; exact sub_set' hs_G2 hz0_r
  have hq_G3_r : G3 r = some (tmRow (pput (pput [] 4 ⟨4, 1, 10⟩) 2 ⟨2, 0, 9⟩)) := by rw [← hE_G3]; exact AHeap.get_set _ _ _
  have hq_G3_p : G3 p = some (.box (.agg [.map r])) := by rw [← hE_G3]; exact (AHeap.get_set_ne _ _ hpr_p).trans hq_G2_p
  refine g_nil ?_
  refine g_next hK3 ?_
  refine g_seq (fun K4 hK4 => ?_)
  refine g_region ?_
  refine g_step rfl (s_val (v_move rfl) rfl rfl ?_)
  refine g_step rfl (s_call rfl rfl rfl (tmDue_ok p r (pput (pput [] 4 ⟨4, 1, 10⟩) 2 ⟨2, 0, 9⟩) 10 _ hq_G3_p hq_G3_r (by decide)) (fun b hb => .inr (by subst hb; exact hw_r)) ?_)
  rintro n4 r4 effs4 hn4 hdom4 ⟨rfl, rfl⟩ hok4
  generalize hE_G4 : setAll G3 [(r, tmRow (tmRest (pput (pput [] 4 ⟨4, 1, 10⟩) 2 ⟨2, 0, 9⟩) 10))] = G4
  have hs_G4 : H.sub G4 := by rw [← hE_G4]; exact sub_set' hs_G3 hz0_r
  have hq_G4_r : G4 r = some (tmRow (tmRest (pput (pput [] 4 ⟨4, 1, 10⟩) 2 ⟨2, 0, 9⟩) 10)) := by rw [← hE_G4]; exact AHeap.get_set _ _ _
  have hq_G4_p : G4 p = some (.box (.agg [.map r])) := by rw [← hE_G4]; exact (AHeap.get_set_ne _ _ hpr_p).trans hq_G3_p
  rw [tm_awake.1]
  refine g_step rfl (s_val (v_assign rfl) rfl rfl ?_)
  refine g_nil ?_
  refine g_next hK4 ?_
  refine g_seq (fun K5 hK5 => ?_)
  refine g_region ?_
  refine g_step rfl (s_val (v_move rfl) rfl rfl ?_)
  refine g_step rfl (s_val (v_len ty26 rfl (by first | rfl | assumption) (by first | exact List.length_map .. | rfl)) rfl rfl ?_)
  refine g_step rfl (s_val (v_eql rfl rfl) rfl rfl ?_)
  refine g_step rfl (s_val (v_move rfl) rfl rfl ?_)
  refine g_split 13 rfl (fun hg13 => ?_) (fun hg13 => ?_)
  · try simp only [decide_eq_true_eq, decide_eq_false_iff_not, Bool.not_eq_true', Bool.not_eq_false', Bool.not_eq_eq_eq_not, Bool.not_true, Bool.not_false, Bool.and_eq_true, Bool.or_eq_true, Bool.or_eq_false_iff, beq_iff_eq, beq_eq_false_iff_ne, ne_eq, Int.not_lt, Int.not_le, Decidable.not_not] at hg13
    refine g_step_yes (j := 3) (t := 13) rfl rfl rfl rfl (s_val (v_move rfl) rfl rfl ?_)
    refine g_step_yes (j := 3) (t := 13) rfl rfl rfl rfl (s_val (v_indexAddr ty26 ty32 rfl rfl (by first | rfl | assumption) (by first | rfl | exact (rfl : (0 : Int) = ((0 : Nat) : Int)) | exact (Int.toNat_of_nonneg (by omega)).symm) (by first | assumption | exact map_get (by assumption) | rfl) rfl) rfl rfl ?_)
    refine g_step_yes (j := 3) (t := 13) rfl rfl rfl rfl (s_val (by first | exact v_fieldAddr ty32 fo32_0 ty3 rfl | exact v_fieldAddr_box ty32 fo32_0 ty3 rfl) rfl rfl ?_)
    refine g_step_yes (j := 3) (t := 13) rfl rfl rfl rfl (s_val (by first | exact v_load ty3 rfl rfl (by first | rfl | assumption) (by first | assumption | exact map_get (by assumption) | rfl) rfl | exact v_load_box ty3 rfl rfl (by assumption) rfl) rfl rfl ?_)
    refine g_step_yes (j := 3) (t := 13) rfl rfl rfl rfl (s_val (v_eql rfl rfl) rfl rfl ?_)
    refine g_step rfl (s_val (v_pick_t rfl rfl) rfl rfl ?_)
    refine g_step rfl (s_val (v_move rfl) rfl rfl ?_)
    refine g_split 20 rfl (fun hg20 => ?_) (fun hg20 => ?_)
    · try simp only [decide_eq_true_eq, decide_eq_false_iff_not, Bool.not_eq_true', Bool.not_eq_false', Bool.not_eq_eq_eq_not, Bool.not_true, Bool.not_false, Bool.and_eq_true, Bool.or_eq_true, Bool.or_eq_false_iff, beq_iff_eq, beq_eq_false_iff_ne, ne_eq, Int.not_lt, Int.not_le, Decidable.not_not] at hg20
      refine g_step_yes (j := 10) (t := 20) rfl rfl rfl rfl (s_val (v_move rfl) rfl rfl ?_)
      refine g_step_yes (j := 10) (t := 20) rfl rfl rfl rfl (s_val (v_indexAddr ty26 ty32 rfl rfl (by first | rfl | assumption) (by first | rfl | exact (rfl : (0 : Int) = ((0 : Nat) : Int)) | exact (Int.toNat_of_nonneg (by omega)).symm) (by first | assumption | exact map_get (by assumption) | rfl) rfl) rfl rfl ?_)
      refine g_step_yes (j := 10) (t := 20) rfl rfl rfl rfl (s_val (by first | exact v_fieldAddr ty32 fo32_0 ty3 rfl | exact v_fieldAddr_box ty32 fo32_0 ty3 rfl) rfl rfl ?_)
      refine g_step_yes (j := 10) (t := 20) rfl rfl rfl rfl (s_val (by first | exact v_load ty3 rfl rfl (by first | rfl | assumption) (by first | assumption | exact map_get (by assumption) | rfl) rfl | exact v_load_box ty3 rfl rfl (by assumption) rfl) rfl rfl ?_)
      refine g_step_yes (j := 10) (t := 20) rfl rfl rfl rfl (s_val (v_eql rfl rfl) rfl rfl ?_)
      refine g_step rfl (s_val (v_pick_t rfl rfl) rfl rfl ?_)
      refine g_step rfl (s_val (v_move rfl) rfl rfl ?_)
      refine g_split 27 rfl (fun hg27 => ?_) (fun hg27 => ?_)
      · try simp only [decide_eq_true_eq, decide_eq_false_iff_not, Bool.not_eq_true', Bool.not_eq_false', Bool.not_eq_eq_eq_not, Bool.not_true, Bool.not_false, Bool.and_eq_true, Bool.or_eq_true, Bool.or_eq_false_iff, beq_iff_eq, beq_eq_false_iff_ne, ne_eq, Int.not_lt, Int.not_le, Decidable.not_not] at hg27
        refine g_step_yes (j := 17) (t := 27) rfl rfl rfl rfl (s_val (v_move rfl) rfl rfl ?_)
        refine g_step_yes (j := 17) (t := 27) rfl rfl rfl rfl (s_val (v_indexAddr ty26 ty32 rfl rfl (by first | rfl | assumption) (by first | rfl | exact (rfl : (0 : Int) = ((0 : Nat) : Int)) | exact (Int.toNat_of_nonneg (by omega)).symm) (by first | assumption | exact map_get (by assumption) | rfl) rfl) rfl rfl ?_)
        refine g_step_yes (j := 17) (t := 27) rfl rfl rfl rfl (s_val (by first | exact v_fieldAddr ty32 fo32_1 ty3 rfl | exact v_fieldAddr_box ty32 fo32_1 ty3 rfl) rfl rfl ?_)
        refine g_step_yes (j := 17) (t := 27) rfl rfl rfl rfl (s_val (by first | exact v_load ty3 rfl rfl (by first | rfl | assumption) (by first | assumption | exact map_get (by assumption) | rfl) rfl | exact v_load_box ty3 rfl rfl (by assumption) rfl) rfl rfl ?_)
        refine g_step_yes (j := 17) (t := 27) rfl rfl rfl rfl (s_val (v_eql rfl rfl) rfl rfl ?_)
        refine g_step rfl (s_val (v_pick_t rfl rfl) rfl rfl ?_)
        refine g_step rfl (s_val (v_move rfl) rfl rfl ?_)
        refine g_split 34 rfl (fun hg34 => ?_) (fun hg34 => ?_)
        · try simp only [decide_eq_true_eq, decide_eq_false_iff_not, Bool.not_eq_true', Bool.not_eq_false', Bool.not_eq_eq_eq_not, Bool.not_true, Bool.not_false, Bool.and_eq_true, Bool.or_eq_true, Bool.or_eq_false_iff, beq_iff_eq, beq_eq_false_iff_ne, ne_eq, Int.not_lt, Int.not_le, Decidable.not_not] at hg34
          refine g_step_yes (j := 24) (t := 34) rfl rfl rfl rfl (s_val (v_move rfl) rfl rfl ?_)
          refine g_step_yes (j := 24) (t := 34) rfl rfl rfl rfl (s_callp rfl rfl rfl (tmAll_ok p r (tmRest (pput (pput [] 4 ⟨4, 1, 10⟩) 2 ⟨2, 0, 9⟩) 10) _ hq_G4_p hq_G4_r (Nat.le_trans (tmRest_length _ _) (by decide))) ?_)
          rintro _ rfl
          rw [tm_awake.2]
          refine g_step_yes (j := 24) (t := 34) rfl rfl rfl rfl (s_val (v_len ty26 rfl (by first | rfl | assumption) (by first | exact List.length_map .. | rfl)) rfl rfl ?_)
          refine g_step_yes (j := 24) (t := 34) rfl rfl rfl rfl (s_val (v_eql rfl rfl) rfl rfl ?_)
          refine g_step rfl (s_val (v_pick_t rfl rfl) rfl rfl ?_)
          refine g_step rfl (s_val (v_assign rfl) rfl rfl ?_)
          refine g_nil ?_
          refine g_next hK5 ?_
          first | refine g_keep [0] [] [] (keep_cons rfl keep_nil) lkeep_nil keep_nil rfl ?_ | refine g_keep [0] [] [] rfl rfl rfl rfl ?_
          refine g_ret ?_
          refine g_end1 (.inl rfl) Try.results11 (.tmp rfl) [] (ASub.refl _) hs_G4 (fun p hp => by cases hp) ⟨rfl, ?_⟩
          rfl
        · exfalso; (try simp only [decide_eq_true_eq, decide_eq_false_iff_not, Bool.not_eq_true', Bool.not_eq_false', Bool.not_eq_eq_eq_not, Bool.not_true, Bool.not_false, Bool.and_eq_true, Bool.or_eq_true, Bool.or_eq_false_iff, beq_iff_eq, beq_eq_false_iff_ne, ne_eq, Int.not_lt, Int.not_le, Decidable.not_not] at hg34); revert hg34; decide
      · exfalso; (try simp only [decide_eq_true_eq, decide_eq_false_iff_not, Bool.not_eq_true', Bool.not_eq_false', Bool.not_eq_eq_eq_not, Bool.not_true, Bool.not_false, Bool.and_eq_true, Bool.or_eq_true, Bool.or_eq_false_iff, beq_iff_eq, beq_eq_false_iff_ne, ne_eq, Int.not_lt, Int.not_le, Decidable.not_not] at hg27); revert hg27; decide
    · exfalso; (try simp only [decide_eq_true_eq, decide_eq_false_iff_not, Bool.not_eq_true', Bool.not_eq_false', Bool.not_eq_eq_eq_not, Bool.not_true, Bool.not_false, Bool.and_eq_true, Bool.or_eq_true, Bool.or_eq_false_iff, beq_iff_eq, beq_eq_false_iff_ne, ne_eq, Int.not_lt, Int.not_le, Decidable.not_not] at hg20); revert hg20; decide
  · exfalso; (try simp only [decide_eq_true_eq, decide_eq_false_iff_not, Bool.not_eq_true', Bool.not_eq_false', Bool.not_eq_eq_eq_not, Bool.not_true, Bool.not_false, Bool.and_eq_true, Bool.or_eq_true, Bool.or_eq_false_iff, beq_iff_eq, beq_eq_false_iff_ne, ne_eq, Int.not_lt, Int.not_le, Decidable.not_not] at hg13); revert hg13; decide

theorem timerOnce_ok (id inc at' : Int) (ts : List Int) (hti : ts.length ≤ 140737488355328) (G : AHeap) : PCalls Try.prog 4 [.int .i64 id, .int .i64 inc, .int .i64 at', .imm (ts.map (.int .i64))] G (fun r => r = .bool true) := by
  refine LCalls.intro 87 fi4 rfl Try.ntmps4 rfl (fun _ h => h.elim) (fun H hH w0 hw0 => ?_)
  refine g_seq (fun K0 hK0 => ?_)
  refine g_region ?_
  refine g_step rfl (s_val (v_assign rfl) rfl rfl ?_)
  refine g_nil ?_
  refine g_next hK0 ?_
  refine g_seq (fun K1 hK1 => ?_)
  refine g_seq (fun K2 hK2 => ?_)
  refine g_region ?_
  refine g_step rfl (s_val (v_move rfl) rfl rfl ?_)
  refine g_step rfl (s_val (v_len ty41 rfl (by first | rfl | assumption) (by first | exact List.length_map .. | rfl)) rfl rfl ?_)
  refine g_step rfl (s_val (v_gtr rfl rfl) rfl rfl ?_)
  refine g_nil ?_
  refine g_next hK2 ?_
  refine g_cond rfl (fun hc17 => ?_) (fun hc17 => ?_)
  · try simp only [decide_eq_true_eq, decide_eq_false_iff_not, Bool.not_eq_true', Bool.not_eq_false', Bool.not_eq_eq_eq_not, Bool.not_true, Bool.not_false, Bool.and_eq_true, Bool.or_eq_true, Bool.or_eq_false_iff, beq_iff_eq, beq_eq_false_iff_ne, ne_eq, Int.not_lt, Int.not_le, Decidable.not_not] at hc17
    refine g_seq (fun K3 hK3 => ?_)
    refine g_region ?_
    refine g_step rfl (s_callp rfl rfl rfl (awake21_ok _) ?_)
    rintro _ rfl
    refine g_step rfl (s_val (v_assign rfl) rfl rfl ?_)
    refine g_nil ?_
    refine g_next hK3 ?_
    refine g_ret ?_
    refine g_then_ret ?_
    refine g_end1 (.inl rfl) Try.results4 (.tmp rfl) [] (ASub.refl _) (by first | exact hs_G | exact AHeap.sub_refl _) (fun p hp => by cases hp) ⟨rfl, ?_⟩
    rfl
  · try simp only [decide_eq_true_eq, decide_eq_false_iff_not, Bool.not_eq_true', Bool.not_eq_false', Bool.not_eq_eq_eq_not, Bool.not_true, Bool.not_false, Bool.and_eq_true, Bool.or_eq_true, Bool.or_eq_false_iff, beq_iff_eq, beq_eq_false_iff_ne, ne_eq, Int.not_lt, Int.not_le, Decidable.not_not] at hc17
    refine g_skip ?_
    refine g_next hK1 ?_
    refine g_seq (fun K4 hK4 => ?_)
    refine g_region ?_
    refine g_step rfl (s_call rfl rfl rfl (tmNew_ok _) (fun _ h => h.elim) ?_)
    rintro n1 r1 effs1 hn1 hdom1 ⟨p, r, hp1, hr1, hpr_p, rfl, rfl⟩ hok1
    have hw_p : w0.heap.size ≤ p := Nat.le_trans hn1 hp1
    have hw_r : w0.heap.size ≤ r := Nat.le_trans hn1 hr1
    have hz0_p := sub_none (AHeap.sub_refl _) (hdom1 _ hp1)
    have hz0_r := sub_none (AHeap.sub_refl _) (hdom1 _ hr1)
    generalize hE_G1 : setAll H [(p, .box (.agg [.map r])), (r, tmRow [])] = G1
    have hs_G1 : H.sub G1 := by rw [← hE_G1]; exact sub_set' (sub_set' (AHeap.sub_refl _) hz0_r) hz0_p
    have hq_G1_p : G1 p = some (.box (.agg [.map r])) := by rw [← hE_G1]; exact AHeap.get_set _ _ _
    have hq_G1_r : G1 r = some (tmRow []) := by rw [← hE_G1]; exact (AHeap.get_set_ne _ _ (Ne.symm hpr_p)).trans (AHeap.get_set _ _ _)
    refine g_step rfl (s_val (v_assign rfl) rfl rfl ?_)
    refine g_nil ?_
    refine g_next hK4 ?_
    refine g_seq (fun K5 hK5 => ?_)
    refine g_region ?_
    refine g_step rfl (s_val (v_move rfl) rfl rfl ?_)
    refine g_step rfl (s_val (v_move rfl) rfl rfl ?_)
    refine g_step rfl (s_val (v_move rfl) rfl rfl ?_)
    refine g_step rfl (s_val (v_move rfl) rfl rfl ?_)
    refine g_step rfl (s_call rfl rfl rfl (tmSet_ok p r [] id inc at' _ hq_G1_p hq_G1_r) (fun b hb => .inr (by subst hb; exact hw_r)) ?_)
    rintro n2 r2 effs2 hn2 hdom2 ⟨rfl, rfl⟩ hok2
    rw [show pput [] id (⟨id, inc, at'⟩ : Al) = oneM (⟨id, inc, at'⟩ : Al) false from rfl]
    generalize hE_G2 : setAll G1 [(r, tmRow (oneM (⟨id, inc, at'⟩ : Al) false))] = G2
    have hs_G2 : H.sub G2 := by rw [← hE_G2]; exact sub_set' hs_G1 hz0_r
    have hq_G2_r : G2 r = some (tmRow (oneM (⟨id, inc, at'⟩ : Al) false)) := by rw [← hE_G2]; exact AHeap.get_set _ _ _
    have hq_G2_p : G2 p = some (.box (.agg [.map r])) := by rw [← hE_G2]; exact (AHeap.get_set_ne _ _ hpr_p).trans hq_G1_p
    refine g_nil ?_
    refine g_next hK5 ?_
    refine g_seq (fun K6 hK6 => ?_)
    refine g_region ?_
    refine g_step rfl (s_val (v_assign rfl) rfl rfl ?_)
    refine g_nil ?_
    refine g_next hK6 ?_
    refine g_seq (fun K7 hK7 => ?_)
    refine g_seq (fun K8 hK8 => ?_)
    refine g_region ?_
    refine g_step rfl (s_val (v_assign rfl) rfl rfl ?_)
    refine g_nil ?_
    refine g_next hK8 ?_
    refine g_block ?_
    first | refine g_keep [0, 1, 2, 3, 9, 10, 11] [] [] (keep_cons rfl (keep_cons rfl (keep_cons rfl (keep_cons rfl (keep_cons rfl (keep_cons rfl (keep_cons rfl keep_nil))))))) lkeep_nil keep_nil rfl ?_ | refine g_keep [0, 1, 2, 3, 9, 10, 11] [] [] rfl rfl rfl rfl ?_
    refine g_loop (fun n env L B G => ∃ (k : Nat) (c : Bool), k ≤ ts.length ∧ n = ts.length - k ∧ env = [(0, .int .i64 id), (1, .int .i64 inc), (2, .int .i64 at'), (3, .imm (ts.map (.int .i64))), (9, .box p 0), (10, .bool c), (11, .int .i64 (k : Int))] ∧ L = [] ∧ B = [] ∧ G p = some (.box (.agg [.map r])) ∧ G r = some (tmRow (oneM (⟨id, inc, at'⟩ : Al) c)) ∧ H.sub G) (ts.length) ⟨0, false, Nat.zero_le _, rfl, rfl, rfl, rfl, ⟨hq_G2_p, hq_G2_r, hs_G2⟩⟩ (fun n env L B G hI => ?_)
    obtain ⟨k, c, hk, rfl, rfl, rfl, rfl, hq_G_p, hq_G_r, hs_G⟩ := hI
    refine g_seq (fun K9 hK9 => ?_)
    refine g_seq (fun K10 hK10 => ?_)
    refine g_region ?_
    refine g_step rfl (s_val (v_move rfl) rfl rfl ?_)
    refine g_step rfl (s_val (v_move rfl) rfl rfl ?_)
    refine g_step rfl (s_val (v_len ty41 rfl (by first | rfl | assumption) (by first | exact List.length_map .. | rfl)) rfl rfl ?_)
    refine g_step rfl (s_val (v_lss rfl rfl) rfl rfl ?_)
    refine g_nil ?_
    refine g_next hK10 ?_
    refine g_cond rfl (fun hc28 => ?_) (fun hc28 => ?_)
    · try simp only [decide_eq_true_eq, decide_eq_false_iff_not, Bool.not_eq_true', Bool.not_eq_false', Bool.not_eq_eq_eq_not, Bool.not_true, Bool.not_false, Bool.and_eq_true, Bool.or_eq_true, Bool.or_eq_false_iff, beq_iff_eq, beq_eq_false_iff_ne, ne_eq, Int.not_lt, Int.not_le, Decidable.not_not] at hc28
      obtain ⟨z, hz⟩ := get_some (l := ts) (k := k) (by omega)
      refine g_skip ?_
      refine g_next hK9 ?_
      refine g_seq (fun K11 hK11 => ?_)
      refine g_block ?_
      refine g_seq (fun K12 hK12 => ?_)
      refine g_region ?_
      refine g_step rfl (s_val (v_move rfl) rfl rfl ?_)
      refine g_step rfl (s_val (v_move rfl) rfl rfl ?_)
      refine g_step rfl (s_val (v_move rfl) rfl rfl ?_)
      refine g_step rfl (s_val (v_indexAddr ty41 ty3 rfl rfl (by first | rfl | assumption) (by first | rfl | exact (rfl : (0 : Int) = ((0 : Nat) : Int)) | exact (Int.toNat_of_nonneg (by omega)).symm) (by first | assumption | exact map_get (by assumption) | rfl) rfl) rfl rfl ?_)
      refine g_step rfl (s_val (by first | exact v_load ty3 rfl rfl (by first | rfl | assumption) (by first | assumption | exact map_get (by assumption) | rfl) rfl | exact v_load_box ty3 rfl rfl (by assumption) rfl) rfl rfl ?_)
      refine g_step rfl (s_call rfl rfl rfl (tmDue_ok p r (oneM (⟨id, inc, at'⟩ : Al) c) z _ hq_G_p hq_G_r (Nat.le_trans (oneM_len _ _) (by decide))) (fun b hb => .inr (by subst hb; exact hw_r)) ?_)
      rintro n3 r3 effs3 hn3 hdom3 ⟨rfl, rfl⟩ hok3
      rw [oneM_rest]
      generalize hE_G3 : setAll G [(r, tmRow (oneM (⟨id, inc, at'⟩ : Al) (c || decide (at' ≤ z))))] = G3
      have hs_G3 : H.sub G3 := by rw [← hE_G3]; exact sub_set' hs_G hz0_r
      have hq_G3_r : G3 r = some (tmRow (oneM (⟨id, inc, at'⟩ : Al) (c || decide (at' ≤ z)))) := by rw [← hE_G3]; exact AHeap.get_set _ _ _
      have hq_G3_p : G3 p = some (.box (.agg [.map r])) := by rw [← hE_G3]; exact (AHeap.get_set_ne _ _ hpr_p).trans hq_G_p
      refine g_step rfl (s_val (v_assign rfl) rfl rfl ?_)
      refine g_nil ?_
      refine g_next hK12 ?_
      refine g_cut (fun env L B G => ∃ (c' : Bool), env = [(0, .int .i64 id), (1, .int .i64 inc), (2, .int .i64 at'), (3, .imm (ts.map (.int .i64))), (9, .box p 0), (10, .bool c'), (11, .int .i64 (k : Int))] ∧ L = [] ∧ B = [] ∧ G p = some (.box (.agg [.map r])) ∧ G r = some (tmRow (oneM (⟨id, inc, at'⟩ : Al) c')) ∧ H.sub G) ?_ (fun env L B G hI => ?_)
      · skip
        refine g_seq (fun K13 hK13 => ?_)
        refine g_region ?_
        skip
        refine g_step rfl (s_val (v_move rfl) rfl rfl ?_)
        refine g_step rfl (s_val (v_not rfl) rfl rfl ?_)
        refine g_step rfl (s_val (v_move rfl) rfl rfl ?_)
        refine g_split 39 rfl (fun hg39 => ?_) (fun hg39 => ?_)
        · try simp only [decide_eq_true_eq, decide_eq_false_iff_not, Bool.not_eq_true', Bool.not_eq_false', Bool.not_eq_eq_eq_not, Bool.not_true, Bool.not_false, Bool.and_eq_true, Bool.or_eq_true, Bool.or_eq_false_iff, beq_iff_eq, beq_eq_false_iff_ne, ne_eq, Int.not_lt, Int.not_le, Decidable.not_not] at hg39
          refine g_step_yes (j := 2) (t := 39) rfl rfl rfl rfl (s_val (v_move rfl) rfl rfl ?_)
          refine g_step_yes (j := 2) (t := 39) rfl rfl rfl rfl (s_val (v_move rfl) rfl rfl ?_)
          refine g_step_yes (j := 2) (t := 39) rfl rfl rfl rfl (s_val (v_indexAddr ty41 ty3 rfl rfl (by first | rfl | assumption) (by first | rfl | exact (rfl : (0 : Int) = ((0 : Nat) : Int)) | exact (Int.toNat_of_nonneg (by omega)).symm) (by first | assumption | exact map_get (by assumption) | rfl) rfl) rfl rfl ?_)
          refine g_step_yes (j := 2) (t := 39) rfl rfl rfl rfl (s_val (by first | exact v_load ty3 rfl rfl (by first | rfl | assumption) (by first | assumption | exact map_get (by assumption) | rfl) rfl | exact v_load_box ty3 rfl rfl (by assumption) rfl) rfl rfl ?_)
          refine g_step_yes (j := 2) (t := 39) rfl rfl rfl rfl (s_val (v_move rfl) rfl rfl ?_)
          refine g_step_yes (j := 2) (t := 39) rfl rfl rfl rfl (s_val (v_geq rfl rfl) rfl rfl ?_)
          refine g_step rfl (s_val (v_pick_t rfl rfl) rfl rfl ?_)
          refine g_nil ?_
          refine g_next hK13 ?_
          first | refine g_keep [0, 1, 2, 3, 9, 10, 11, 12, 46] [] [] (keep_cons rfl (keep_cons rfl (keep_cons rfl (keep_cons rfl (keep_cons rfl (keep_cons rfl (keep_cons rfl (keep_cons rfl (keep_cons rfl keep_nil))))))))) lkeep_nil keep_nil rfl ?_ | refine g_keep [0, 1, 2, 3, 9, 10, 11, 12, 46] [] [] rfl rfl rfl rfl ?_
          refine g_cond rfl (fun hc46 => ?_) (fun hc46 => ?_)
          · try simp only [decide_eq_true_eq, decide_eq_false_iff_not, Bool.not_eq_true', Bool.not_eq_false', Bool.not_eq_eq_eq_not, Bool.not_true, Bool.not_false, Bool.and_eq_true, Bool.or_eq_true, Bool.or_eq_false_iff, beq_iff_eq, beq_eq_false_iff_ne, ne_eq, Int.not_lt, Int.not_le, Decidable.not_not] at hc46
            have hdue : tmDue (oneM (⟨id, inc, at'⟩ : Al) c) z = [(⟨id, inc, at'⟩ : Al)] := by rw [oneM_due, if_pos ⟨by simpa using hg39, hc46⟩]
            rw [hdue]
            refine g_seq (fun K14 hK14 => ?_)
            refine g_seq (fun K15 hK15 => ?_)
            refine g_region ?_
            refine g_step rfl (s_val (v_move rfl) rfl rfl ?_)
            refine g_step rfl (s_val (v_len ty26 rfl (by first | rfl | assumption) (by first | exact List.length_map .. | rfl)) rfl rfl ?_)
            refine g_step rfl (s_val (v_neq rfl rfl) rfl rfl ?_)
            refine g_step rfl (s_val (v_move rfl) rfl rfl ?_)
            refine g_split 50 rfl (fun hg50 => ?_) (fun hg50 => ?_)
            · exfalso; (try simp only [decide_eq_true_eq, decide_eq_false_iff_not, Bool.not_eq_true', Bool.not_eq_false', Bool.not_eq_eq_eq_not, Bool.not_true, Bool.not_false, Bool.and_eq_true, Bool.or_eq_true, Bool.or_eq_false_iff, beq_iff_eq, beq_eq_false_iff_ne, ne_eq, Int.not_lt, Int.not_le, Decidable.not_not] at hg50); simp at hg50
            · try simp only [decide_eq_true_eq, decide_eq_false_iff_not, Bool.not_eq_true', Bool.not_eq_false', Bool.not_eq_eq_eq_not, Bool.not_true, Bool.not_false, Bool.and_eq_true, Bool.or_eq_true, Bool.or_eq_false_iff, beq_iff_eq, beq_eq_false_iff_ne, ne_eq, Int.not_lt, Int.not_le, Decidable.not_not] at hg50
              refine g_step_yes (j := 3) (t := 50) rfl rfl rfl rfl (s_val (v_move rfl) rfl rfl ?_)
              refine g_step_yes (j := 3) (t := 50) rfl rfl rfl rfl (s_val (v_indexAddr ty26 ty32 rfl rfl (by first | rfl | assumption) (by first | rfl | exact (rfl : (0 : Int) = ((0 : Nat) : Int)) | exact (Int.toNat_of_nonneg (by omega)).symm) (by first | assumption | exact map_get (by assumption) | rfl) rfl) rfl rfl ?_)
              refine g_step_yes (j := 3) (t := 50) rfl rfl rfl rfl (s_val (by first | exact v_fieldAddr ty32 fo32_0 ty3 rfl | exact v_fieldAddr_box ty32 fo32_0 ty3 rfl) rfl rfl ?_)
              refine g_step_yes (j := 3) (t := 50) rfl rfl rfl rfl (s_val (by first | exact v_load ty3 rfl rfl (by first | rfl | assumption) (by first | assumption | exact map_get (by assumption) | rfl) rfl | exact v_load_box ty3 rfl rfl (by assumption) rfl) rfl rfl ?_)
              refine g_step_yes (j := 3) (t := 50) rfl rfl rfl rfl (s_val (v_move rfl) rfl rfl ?_)
              refine g_step_yes (j := 3) (t := 50) rfl rfl rfl rfl (s_val (v_neq rfl rfl) rfl rfl ?_)
              refine g_step rfl (s_val (v_pick_f rfl rfl) rfl rfl ?_)
              refine g_step rfl (s_val (v_move rfl) rfl rfl ?_)
              refine g_split 58 rfl (fun hg58 => ?_) (fun hg58 => ?_)
              · exfalso; (try simp only [decide_eq_true_eq, decide_eq_false_iff_not, Bool.not_eq_true', Bool.not_eq_false', Bool.not_eq_eq_eq_not, Bool.not_true, Bool.not_false, Bool.and_eq_true, Bool.or_eq_true, Bool.or_eq_false_iff, beq_iff_eq, beq_eq_false_iff_ne, ne_eq, Int.not_lt, Int.not_le, Decidable.not_not] at hg58); simp at hg58
              · try simp only [decide_eq_true_eq, decide_eq_false_iff_not, Bool.not_eq_true', Bool.not_eq_false', Bool.not_eq_eq_eq_not, Bool.not_true, Bool.not_false, Bool.and_eq_true, Bool.or_eq_true, Bool.or_eq_false_iff, beq_iff_eq, beq_eq_false_iff_ne, ne_eq, Int.not_lt, Int.not_le, Decidable.not_not] at hg58
                refine g_step_yes (j := 11) (t := 58) rfl rfl rfl rfl (s_val (v_move rfl) rfl rfl ?_)
                refine g_step_yes (j := 11) (t := 58) rfl rfl rfl rfl (s_val (v_indexAddr ty26 ty32 rfl rfl (by first | rfl | assumption) (by first | rfl | exact (rfl : (0 : Int) = ((0 : Nat) : Int)) | exact (Int.toNat_of_nonneg (by omega)).symm) (by first | assumption | exact map_get (by assumption) | rfl) rfl) rfl rfl ?_)
                refine g_step_yes (j := 11) (t := 58) rfl rfl rfl rfl (s_val (by first | exact v_fieldAddr ty32 fo32_1 ty3 rfl | exact v_fieldAddr_box ty32 fo32_1 ty3 rfl) rfl rfl ?_)
                refine g_step_yes (j := 11) (t := 58) rfl rfl rfl rfl (s_val (by first | exact v_load ty3 rfl rfl (by first | rfl | assumption) (by first | assumption | exact map_get (by assumption) | rfl) rfl | exact v_load_box ty3 rfl rfl (by assumption) rfl) rfl rfl ?_)
                refine g_step_yes (j := 11) (t := 58) rfl rfl rfl rfl (s_val (v_move rfl) rfl rfl ?_)
                refine g_step_yes (j := 11) (t := 58) rfl rfl rfl rfl (s_val (v_neq rfl rfl) rfl rfl ?_)
                refine g_step rfl (s_val (v_pick_f rfl rfl) rfl rfl ?_)
                refine g_step rfl (s_val (v_move rfl) rfl rfl ?_)
                refine g_split 66 rfl (fun hg66 => ?_) (fun hg66 => ?_)
                · exfalso; (try simp only [decide_eq_true_eq, decide_eq_false_iff_not, Bool.not_eq_true', Bool.not_eq_false', Bool.not_eq_eq_eq_not, Bool.not_true, Bool.not_false, Bool.and_eq_true, Bool.or_eq_true, Bool.or_eq_false_iff, beq_iff_eq, beq_eq_false_iff_ne, ne_eq, Int.not_lt, Int.not_le, Decidable.not_not] at hg66); simp at hg66
                · try simp only [decide_eq_true_eq, decide_eq_false_iff_not, Bool.not_eq_true', Bool.not_eq_false', Bool.not_eq_eq_eq_not, Bool.not_true, Bool.not_false, Bool.and_eq_true, Bool.or_eq_true, Bool.or_eq_false_iff, beq_iff_eq, beq_eq_false_iff_ne, ne_eq, Int.not_lt, Int.not_le, Decidable.not_not] at hg66
                  refine g_step_yes (j := 19) (t := 66) rfl rfl rfl rfl (s_val (v_move rfl) rfl rfl ?_)
                  refine g_step_yes (j := 19) (t := 66) rfl rfl rfl rfl (s_val (v_indexAddr ty26 ty32 rfl rfl (by first | rfl | assumption) (by first | rfl | exact (rfl : (0 : Int) = ((0 : Nat) : Int)) | exact (Int.toNat_of_nonneg (by omega)).symm) (by first | assumption | exact map_get (by assumption) | rfl) rfl) rfl rfl ?_)
                  refine g_step_yes (j := 19) (t := 66) rfl rfl rfl rfl (s_val (by first | exact v_fieldAddr ty32 fo32_2 ty3 rfl | exact v_fieldAddr_box ty32 fo32_2 ty3 rfl) rfl rfl ?_)
                  refine g_step_yes (j := 19) (t := 66) rfl rfl rfl rfl (s_val (by first | exact v_load ty3 rfl rfl (by first | rfl | assumption) (by first | assumption | exact map_get (by assumption) | rfl) rfl | exact v_load_box ty3 rfl rfl (by assumption) rfl) rfl rfl ?_)
                  refine g_step_yes (j := 19) (t := 66) rfl rfl rfl rfl (s_val (v_move rfl) rfl rfl ?_)
                  refine g_step_yes (j := 19) (t := 66) rfl rfl rfl rfl (s_val (v_neq rfl rfl) rfl rfl ?_)
                  refine g_step rfl (s_val (v_pick_f rfl rfl) rfl rfl ?_)
                  refine g_nil ?_
                  refine g_next hK15 ?_
                  first | refine g_keep [0, 1, 2, 3, 9, 11, 73] [] [] (keep_cons rfl (keep_cons rfl (keep_cons rfl (keep_cons rfl (keep_cons rfl (keep_cons rfl (keep_cons rfl keep_nil))))))) lkeep_nil keep_nil rfl ?_ | refine g_keep [0, 1, 2, 3, 9, 11, 73] [] [] rfl rfl rfl rfl ?_
                  refine g_cond rfl (fun hc73 => ?_) (fun hc73 => ?_)
                  · exfalso; (try simp only [decide_eq_true_eq, decide_eq_false_iff_not, Bool.not_eq_true', Bool.not_eq_false', Bool.not_eq_eq_eq_not, Bool.not_true, Bool.not_false, Bool.and_eq_true, Bool.or_eq_true, Bool.or_eq_false_iff, beq_iff_eq, beq_eq_false_iff_ne, ne_eq, Int.not_lt, Int.not_le, Decidable.not_not] at hc73); simp at hc73
                  · try simp only [decide_eq_true_eq, decide_eq_false_iff_not, Bool.not_eq_true', Bool.not_eq_false', Bool.not_eq_eq_eq_not, Bool.not_true, Bool.not_false, Bool.and_eq_true, Bool.or_eq_true, Bool.or_eq_false_iff, beq_iff_eq, beq_eq_false_iff_ne, ne_eq, Int.not_lt, Int.not_le, Decidable.not_not] at hc73
                    refine g_skip ?_
                    refine g_next hK14 ?_
                    refine g_region ?_
                    refine g_step rfl (s_val (v_assign rfl) rfl rfl ?_)
                    refine g_nil ?_
                    first | refine g_keep [0, 1, 2, 3, 9, 10, 11] [] [] (keep_cons rfl (keep_cons rfl (keep_cons rfl (keep_cons rfl (keep_cons rfl (keep_cons rfl (keep_cons rfl keep_nil))))))) lkeep_nil keep_nil rfl ?_ | refine g_keep [0, 1, 2, 3, 9, 10, 11] [] [] rfl rfl rfl rfl ?_
                    first | exact g_has ⟨true, rfl, rfl, rfl, ⟨hq_G3_p, (by rw [hq_G3_r, show (c || decide (at' ≤ z)) = true from by simp [hc46]]), hs_G3⟩⟩ | exact g_has ⟨c, rfl, rfl, rfl, ⟨hq_G3_p, (by rw [hq_G3_r, show (c || decide (at' ≤ z)) = c from by cases c <;> simp_all]), hs_G3⟩⟩
          · try simp only [decide_eq_true_eq, decide_eq_false_iff_not, Bool.not_eq_true', Bool.not_eq_false', Bool.not_eq_eq_eq_not, Bool.not_true, Bool.not_false, Bool.and_eq_true, Bool.or_eq_true, Bool.or_eq_false_iff, beq_iff_eq, beq_eq_false_iff_ne, ne_eq, Int.not_lt, Int.not_le, Decidable.not_not] at hc46
            refine g_seq (fun K16 hK16 => ?_)
            refine g_region ?_
            have hdue : tmDue (oneM (⟨id, inc, at'⟩ : Al) c) z = [] := by rw [oneM_due, if_neg]; rintro ⟨h1, h2⟩; first | (subst h1; simp at hg39; done) | (exact absurd h2 (by show ¬ (at' ≤ z); omega))
            rw [hdue]
            refine g_step rfl (s_val (v_move rfl) rfl rfl ?_)
            refine g_step rfl (s_val (v_len ty26 rfl (by first | rfl | assumption) (by first | exact List.length_map .. | rfl)) rfl rfl ?_)
            refine g_step rfl (s_val (v_neq rfl rfl) rfl rfl ?_)
            refine g_nil ?_
            refine g_next hK16 ?_
            refine g_cond rfl (fun hc76 => ?_) (fun hc76 => ?_)
            · exfalso; (try simp only [decide_eq_true_eq, decide_eq_false_iff_not, Bool.not_eq_true', Bool.not_eq_false', Bool.not_eq_eq_eq_not, Bool.not_true, Bool.not_false, Bool.and_eq_true, Bool.or_eq_true, Bool.or_eq_false_iff, beq_iff_eq, beq_eq_false_iff_ne, ne_eq, Int.not_lt, Int.not_le, Decidable.not_not] at hc76); simp at hc76
            · try simp only [decide_eq_true_eq, decide_eq_false_iff_not, Bool.not_eq_true', Bool.not_eq_false', Bool.not_eq_eq_eq_not, Bool.not_true, Bool.not_false, Bool.and_eq_true, Bool.or_eq_true, Bool.or_eq_false_iff, beq_iff_eq, beq_eq_false_iff_ne, ne_eq, Int.not_lt, Int.not_le, Decidable.not_not] at hc76
              refine g_skip ?_
              first | refine g_keep [0, 1, 2, 3, 9, 10, 11] [] [] (keep_cons rfl (keep_cons rfl (keep_cons rfl (keep_cons rfl (keep_cons rfl (keep_cons rfl (keep_cons rfl keep_nil))))))) lkeep_nil keep_nil rfl ?_ | refine g_keep [0, 1, 2, 3, 9, 10, 11] [] [] rfl rfl rfl rfl ?_
              first | exact g_has ⟨true, rfl, rfl, rfl, ⟨hq_G3_p, (by rw [hq_G3_r, show (c || decide (at' ≤ z)) = true from by simp [hc46]]), hs_G3⟩⟩ | exact g_has ⟨c, rfl, rfl, rfl, ⟨hq_G3_p, (by rw [hq_G3_r, show (c || decide (at' ≤ z)) = c from by cases c <;> simp_all]), hs_G3⟩⟩
        · try simp only [decide_eq_true_eq, decide_eq_false_iff_not, Bool.not_eq_true', Bool.not_eq_false', Bool.not_eq_eq_eq_not, Bool.not_true, Bool.not_false, Bool.and_eq_true, Bool.or_eq_true, Bool.or_eq_false_iff, beq_iff_eq, beq_eq_false_iff_ne, ne_eq, Int.not_lt, Int.not_le, Decidable.not_not] at hg39
          refine g_step_no (j := 2) (t := 39) rfl rfl rfl rfl rfl rfl rfl ?_
          refine g_step_no (j := 2) (t := 39) rfl rfl rfl rfl rfl rfl rfl ?_
          refine g_step_no (j := 2) (t := 39) rfl rfl rfl rfl rfl rfl rfl ?_
          refine g_step_no (j := 2) (t := 39) rfl rfl rfl rfl rfl rfl rfl ?_
          refine g_step_no (j := 2) (t := 39) rfl rfl rfl rfl rfl rfl rfl ?_
          refine g_step_no (j := 2) (t := 39) rfl rfl rfl rfl rfl rfl rfl ?_
          refine g_step rfl (s_val (v_pick_f rfl rfl) rfl rfl ?_)
          refine g_nil ?_
          refine g_next hK13 ?_
          first | refine g_keep [0, 1, 2, 3, 9, 10, 11, 12, 46] [] [] (keep_cons rfl (keep_cons rfl (keep_cons rfl (keep_cons rfl (keep_cons rfl (keep_cons rfl (keep_cons rfl (keep_cons rfl (keep_cons rfl keep_nil))))))))) lkeep_nil keep_nil rfl ?_ | refine g_keep [0, 1, 2, 3, 9, 10, 11, 12, 46] [] [] rfl rfl rfl rfl ?_
          refine g_cond rfl (fun h => by cases h) (fun _ => ?_)
          refine g_seq (fun K17 hK17 => ?_)
          refine g_region ?_
          have hdue : tmDue (oneM (⟨id, inc, at'⟩ : Al) c) z = [] := by rw [oneM_due, if_neg]; rintro ⟨h1, h2⟩; first | (subst h1; simp at hg39; done) | (exact absurd h2 (by show ¬ (at' ≤ z); omega))
          rw [hdue]
          refine g_step rfl (s_val (v_move rfl) rfl rfl ?_)
          refine g_step rfl (s_val (v_len ty26 rfl (by first | rfl | assumption) (by first | exact List.length_map .. | rfl)) rfl rfl ?_)
          refine g_step rfl (s_val (v_neq rfl rfl) rfl rfl ?_)
          refine g_nil ?_
          refine g_next hK17 ?_
          refine g_cond rfl (fun hc76 => ?_) (fun hc76 => ?_)
          · exfalso; (try simp only [decide_eq_true_eq, decide_eq_false_iff_not, Bool.not_eq_true', Bool.not_eq_false', Bool.not_eq_eq_eq_not, Bool.not_true, Bool.not_false, Bool.and_eq_true, Bool.or_eq_true, Bool.or_eq_false_iff, beq_iff_eq, beq_eq_false_iff_ne, ne_eq, Int.not_lt, Int.not_le, Decidable.not_not] at hc76); simp at hc76
          · try simp only [decide_eq_true_eq, decide_eq_false_iff_not, Bool.not_eq_true', Bool.not_eq_false', Bool.not_eq_eq_eq_not, Bool.not_true, Bool.not_false, Bool.and_eq_true, Bool.or_eq_true, Bool.or_eq_false_iff, beq_iff_eq, beq_eq_false_iff_ne, ne_eq, Int.not_lt, Int.not_le, Decidable.not_not] at hc76
            refine g_skip ?_
            first | refine g_keep [0, 1, 2, 3, 9, 10, 11] [] [] (keep_cons rfl (keep_cons rfl (keep_cons rfl (keep_cons rfl (keep_cons rfl (keep_cons rfl (keep_cons rfl keep_nil))))))) lkeep_nil keep_nil rfl ?_ | refine g_keep [0, 1, 2, 3, 9, 10, 11] [] [] rfl rfl rfl rfl ?_
            first | exact g_has ⟨true, rfl, rfl, rfl, ⟨hq_G3_p, (by rw [hq_G3_r, show (c || decide (at' ≤ z)) = true from by simp [hc46]]), hs_G3⟩⟩ | exact g_has ⟨c, rfl, rfl, rfl, ⟨hq_G3_p, (by rw [hq_G3_r, show (c || decide (at' ≤ z)) = c from by cases c <;> simp_all]), hs_G3⟩⟩
      · skip
        obtain ⟨c', rfl, rfl, rfl, hq_X_p, hq_X_r, hs_X⟩ := hI
        refine g_seq (fun K18 hK18 => ?_)
        refine g_region ?_
        refine g_step rfl (s_val (v_move rfl) rfl rfl ?_)
        refine g_step rfl (s_val (v_move rfl) rfl rfl ?_)
        refine g_step rfl (s_callp rfl rfl rfl (tmGet_ok p r (oneM (⟨id, inc, at'⟩ : Al) c') id _ hq_X_p hq_X_r) ?_)
        rintro _ rfl
        rw [show (pget (oneM (⟨id, inc, at'⟩ : Al) c') id).isSome = !c' from oneM_get (⟨id, inc, at'⟩ : Al) c']
        refine g_step rfl (s_val (v_move rfl) rfl rfl ?_)
        refine g_step rfl (s_val (v_extract rfl rfl) rfl rfl ?_)
        refine g_step rfl (s_val (v_extract rfl rfl) rfl rfl ?_)
        refine g_step rfl (s_alloc (av := (.agg [(.int .i64 0), (.int .i64 0), (.int .i64 0)])) ty32 rfl rfl rfl rfl ?_)
        refine g_step rfl (s_store_all ty32 rfl rfl rfl rfl rfl rfl ?_)
        refine g_step rfl (s_val (v_assign rfl) rfl rfl ?_)
        refine g_nil ?_
        refine g_next hK18 ?_
        refine g_seq (fun K19 hK19 => ?_)
        refine g_region ?_
        refine g_step rfl (s_val (v_move rfl) rfl rfl ?_)
        refine g_step rfl (s_val (v_move rfl) rfl rfl ?_)
        refine g_step rfl (s_val (v_bool_eql ty4 rfl rfl) rfl rfl ?_)
        refine g_nil ?_
        refine g_next hK19 ?_
        refine g_cond rfl (fun hc85 => ?_) (fun hc85 => ?_)
        · exfalso; (try simp only [decide_eq_true_eq, decide_eq_false_iff_not, Bool.not_eq_true', Bool.not_eq_false', Bool.not_eq_eq_eq_not, Bool.not_true, Bool.not_false, Bool.and_eq_true, Bool.or_eq_true, Bool.or_eq_false_iff, beq_iff_eq, beq_eq_false_iff_ne, ne_eq, Int.not_lt, Int.not_le, Decidable.not_not] at hc85); cases c' <;> simp at hc85
        · try simp only [decide_eq_true_eq, decide_eq_false_iff_not, Bool.not_eq_true', Bool.not_eq_false', Bool.not_eq_eq_eq_not, Bool.not_true, Bool.not_false, Bool.and_eq_true, Bool.or_eq_true, Bool.or_eq_false_iff, beq_iff_eq, beq_eq_false_iff_ne, ne_eq, Int.not_lt, Int.not_le, Decidable.not_not] at hc85
          refine g_skip ?_
          refine g_block_normal ?_
          refine g_next hK11 ?_
          refine g_region ?_
          refine g_step rfl (s_val (v_move rfl) rfl rfl ?_)
          refine g_step rfl (s_val (v_add rfl rfl (by omega)) rfl rfl ?_)
          refine g_step rfl (s_val (v_assign rfl) rfl rfl ?_)
          refine g_nil ?_
          first | refine g_keep [0, 1, 2, 3, 9, 10, 11] [] [] (keep_cons rfl (keep_cons rfl (keep_cons rfl (keep_cons rfl (keep_cons rfl (keep_cons rfl (keep_cons rfl keep_nil))))))) lkeep_nil keep_nil rfl ?_ | refine g_keep [0, 1, 2, 3, 9, 10, 11] [] [] rfl rfl rfl rfl ?_
          exact g_round _ (by omega) ⟨k + 1, c', by omega, rfl, rfl, rfl, rfl, ⟨hq_X_p, hq_X_r, hs_X⟩⟩
    · try simp only [decide_eq_true_eq, decide_eq_false_iff_not, Bool.not_eq_true', Bool.not_eq_false', Bool.not_eq_eq_eq_not, Bool.not_true, Bool.not_false, Bool.and_eq_true, Bool.or_eq_true, Bool.or_eq_false_iff, beq_iff_eq, beq_eq_false_iff_ne, ne_eq, Int.not_lt, Int.not_le, Decidable.not_not] at hc28
      obtain rfl : k = ts.length := by omega
      refine g_exit ?_
      refine g_then_exit ?_
      refine g_then_exit ?_
      refine g_block_same ?_
      refine g_next hK7 ?_
      refine g_seq (fun K20 hK20 => ?_)
      refine g_region ?_
      refine g_step rfl (s_callp rfl rfl rfl (awake21_ok _) ?_)
      rintro _ rfl
      refine g_step rfl (s_val (v_assign rfl) rfl rfl ?_)
      refine g_nil ?_
      refine g_next hK20 ?_
      refine g_ret ?_
      refine g_end1 (.inl rfl) Try.results4 (.tmp rfl) [] (ASub.refl _) (by first | exact hs_G | exact AHeap.sub_refl _) (fun p hp => by cases hp) ⟨rfl, ?_⟩
      rfl

theorem timerPlays_ok (l : List TAct) (id : Int) (G : AHeap) : PCalls Try.prog 3 [.imm (l.map encTA), .int .i64 id] G (fun r => r = .bool true) := by
  refine LCalls.intro 146 fi3 rfl Try.ntmps3 rfl (fun _ h => h.elim) (fun H hH w0 hw0 => ?_)
  refine g_seq (fun K0 hK0 => ?_)
  refine g_region ?_
  refine g_step rfl (s_val (v_assign rfl) rfl rfl ?_)
  refine g_nil ?_
  refine g_next hK0 ?_
  refine g_seq (fun K1 hK1 => ?_)
  refine g_seq (fun K2 hK2 => ?_)
  refine g_region ?_
  refine g_step rfl (s_val (v_move rfl) rfl rfl ?_)
  refine g_step rfl (s_val (v_len ty22 rfl (by first | rfl | assumption) (by first | exact List.length_map .. | rfl)) rfl rfl ?_)
  refine g_step rfl (s_val (v_gtr rfl rfl) rfl rfl ?_)
  refine g_nil ?_
  refine g_next hK2 ?_
  refine g_cond rfl (fun hc17 => ?_) (fun hc17 => ?_)
  · try simp only [decide_eq_true_eq, decide_eq_false_iff_not, Bool.not_eq_true', Bool.not_eq_false', Bool.not_eq_eq_eq_not, Bool.not_true, Bool.not_false, Bool.and_eq_true, Bool.or_eq_true, Bool.or_eq_false_iff, beq_iff_eq, beq_eq_false_iff_ne, ne_eq, Int.not_lt, Int.not_le, Decidable.not_not] at hc17
    refine g_seq (fun K3 hK3 => ?_)
    refine g_region ?_
    refine g_step rfl (s_callp rfl rfl rfl (awake21_ok _) ?_)
    rintro _ rfl
    refine g_step rfl (s_val (v_assign rfl) rfl rfl ?_)
    refine g_nil ?_
    refine g_next hK3 ?_
    refine g_ret ?_
    refine g_then_ret ?_
    refine g_end1 (.inl rfl) Try.results3 (.tmp rfl) [] (ASub.refl _) (by first | exact hs_G | exact hG0 ▸ hs_G | exact AHeap.sub_set (hG0 ▸ hs_G) (by assumption) | exact AHeap.sub_refl _) (fun p hp => by cases hp) ⟨rfl, ?_⟩
    rfl
  · try simp only [decide_eq_true_eq, decide_eq_false_iff_not, Bool.not_eq_true', Bool.not_eq_false', Bool.not_eq_eq_eq_not, Bool.not_true, Bool.not_false, Bool.and_eq_true, Bool.or_eq_true, Bool.or_eq_false_iff, beq_iff_eq, beq_eq_false_iff_ne, ne_eq, Int.not_lt, Int.not_le, Decidable.not_not] at hc17
    refine g_skip ?_
    refine g_next hK1 ?_
    refine g_seq (fun K4 hK4 => ?_)
    refine g_region ?_
    refine g_step rfl (s_call rfl rfl rfl (tmNew_ok _) (fun _ h => h.elim) ?_)
    rintro n1 r1 effs1 hn1 hdom1 ⟨p, r, hp1, hr1, hpr_p, rfl, rfl⟩ hok1
    have hw_p : w0.heap.size ≤ p := Nat.le_trans hn1 hp1
    have hw_r : w0.heap.size ≤ r := Nat.le_trans hn1 hr1
    have hz0_p := sub_none (AHeap.sub_refl _) (hdom1 _ hp1)
    have hz0_r := sub_none (AHeap.sub_refl _) (hdom1 _ hr1)
    generalize hE_G1 : setAll H [(p, .box (.agg [.map r])), (r, tmRow [])] = G1
    have hs_G1 : H.sub G1 := by rw [← hE_G1]; exact sub_set' (sub_set' (AHeap.sub_refl _) hz0_r) hz0_p
    have hq_G1_p : G1 p = some (.box (.agg [.map r])) := by rw [← hE_G1]; exact AHeap.get_set _ _ _
    have hq_G1_r : G1 r = some (tmRow []) := by rw [← hE_G1]; exact (AHeap.get_set_ne _ _ (Ne.symm hpr_p)).trans (AHeap.get_set _ _ _)
    refine g_step rfl (s_val (v_assign rfl) rfl rfl ?_)
    refine g_nil ?_
    refine g_next hK4 ?_
    refine g_seq (fun K5 hK5 => ?_)
    refine g_region ?_
    refine g_step rfl (s_val (v_assign rfl) rfl rfl ?_)
    refine g_nil ?_
    refine g_next hK5 ?_
    refine g_seq (fun K6 hK6 => ?_)
    refine g_seq (fun K7 hK7 => ?_)
    refine g_region ?_
    refine g_sub 6 rfl ASub.nil0 ?_
    rw [show ([] : List AV) = (tmAll []).map encAl by rw [tmAll_nil]; rfl]
    refine g_step rfl (s_val (v_assign rfl) rfl rfl ?_)
    refine g_nil ?_
    refine g_next hK7 ?_
    refine g_block ?_
    first | refine g_keep [0, 1, 5, 6, 7] [] [] (keep_cons rfl (keep_cons rfl (keep_cons rfl (keep_cons rfl (keep_cons rfl keep_nil))))) lkeep_nil keep_nil rfl ?_ | refine g_keep [0, 1, 5, 6, 7] [] [] rfl rfl rfl rfl ?_
    refine g_loop (fun n env L B G => ∃ (k : Nat) (m : TM), k ≤ l.length ∧ n = l.length - k ∧ env = [(0, .imm (l.map encTA)), (1, .int .i64 id), (5, .box p 0), (6, .imm ((tmAll m).map encAl)), (7, .int .i64 (k : Int))] ∧ L = [] ∧ B = [] ∧ TOk m ∧ m.length ≤ k ∧ G p = some (.box (.agg [.map r])) ∧ G r = some (tmRow m) ∧ H.sub G) (l.length) ⟨0, [], Nat.zero_le _, rfl, rfl, rfl, rfl, ⟨TOk.nil, by simp, hq_G1_p, hq_G1_r, hs_G1⟩⟩ (fun n env L B G hI => ?_)
    obtain ⟨k, m, hk, rfl, rfl, rfl, rfl, hok, hmk, hq_G_p, hq_G_r, hs_G⟩ := hI
    refine g_seq (fun K8 hK8 => ?_)
    refine g_seq (fun K9 hK9 => ?_)
    refine g_region ?_
    refine g_step rfl (s_val (v_move rfl) rfl rfl ?_)
    refine g_step rfl (s_val (v_move rfl) rfl rfl ?_)
    refine g_step rfl (s_val (v_len ty22 rfl (by first | rfl | assumption) (by first | exact List.length_map .. | rfl)) rfl rfl ?_)
    refine g_step rfl (s_val (v_lss rfl rfl) rfl rfl ?_)
    refine g_nil ?_
    refine g_next hK9 ?_
    refine g_cond rfl (fun hc23 => ?_) (fun hc23 => ?_)
    · try simp only [decide_eq_true_eq, decide_eq_false_iff_not, Bool.not_eq_true', Bool.not_eq_false', Bool.not_eq_eq_eq_not, Bool.not_true, Bool.not_false, Bool.and_eq_true, Bool.or_eq_true, Bool.or_eq_false_iff, beq_iff_eq, beq_eq_false_iff_ne, ne_eq, Int.not_lt, Int.not_le, Decidable.not_not] at hc23
      obtain ⟨x, hx⟩ := get_some (l := l) (k := k) (by omega)
      refine g_skip ?_
      refine g_next hK8 ?_
      refine g_seq (fun K10 hK10 => ?_)
      refine g_block ?_
      refine g_seq (fun K11 hK11 => ?_)
      refine g_region ?_
      refine g_step rfl (s_val (v_move rfl) rfl rfl ?_)
      refine g_step rfl (s_val (v_move rfl) rfl rfl ?_)
      refine g_step rfl (s_val (v_indexAddr ty22 ty28 rfl rfl (by first | rfl | assumption) (by first | rfl | exact (rfl : (0 : Int) = ((0 : Nat) : Int)) | exact (Int.toNat_of_nonneg (by omega)).symm) (by first | assumption | exact map_get (by assumption) | rfl) rfl) rfl rfl ?_)
      refine g_step rfl (s_val (by first | exact v_load_elt ty28 rfl rfl (by first | rfl | assumption) (by first | assumption | exact map_get (by assumption) | rfl) rfl rfl | exact v_load_box_all ty28 rfl rfl (by assumption) rfl rfl | exact v_load_part (cs := [_, _, _, _]) ty28 rfl rfl (by first | rfl | assumption) (by first | assumption | exact map_get (by assumption) | rfl) rfl rfl rfl | exact v_load_box_part (cs := [_, _, _, _]) ty28 rfl rfl (by assumption) rfl rfl rfl) rfl rfl ?_)
      refine g_step rfl (s_alloc (av := (.agg [(.int .i64 0), (.int .i64 0), (.int .i64 0), (.int .i64 0)])) ty28 rfl rfl rfl rfl ?_)
      refine g_step rfl (s_store_all ty28 rfl rfl rfl rfl rfl rfl ?_)
      refine g_nil ?_
      refine g_next hK11 ?_
      refine g_cut (fun env L B G => ∃ (m' : TM), env = [(0, .imm (l.map encTA)), (1, .int .i64 id), (5, .box p 0), (6, .imm ((tmAll m').map encAl)), (7, .int .i64 (k : Int))] ∧ L = [] ∧ B = [] ∧ TOk m' ∧ m'.length ≤ k + 1 ∧ G p = some (.box (.agg [.map r])) ∧ G r = some (tmRow m') ∧ H.sub G) ?_ (fun env L B G hI => ?_)
      · skip
        refine g_seq (fun K12 hK12 => ?_)
        refine g_region ?_
        refine g_step rfl (s_fieldAddr ty28 fo28_0 ty3 rfl rfl ?_)
        refine g_step rfl (s_val (v_loadl ty3 rfl rfl rfl rfl) rfl rfl ?_)
        refine g_step rfl (s_val (v_eql rfl rfl) rfl rfl ?_)
        refine g_nil ?_
        refine g_next hK12 ?_
        refine g_cond rfl (fun hc32 => ?_) (fun hc32 => ?_)
        · try simp only [decide_eq_true_eq, decide_eq_false_iff_not, Bool.not_eq_true', Bool.not_eq_false', Bool.not_eq_eq_eq_not, Bool.not_true, Bool.not_false, Bool.and_eq_true, Bool.or_eq_true, Bool.or_eq_false_iff, beq_iff_eq, beq_eq_false_iff_ne, ne_eq, Int.not_lt, Int.not_le, Decidable.not_not] at hc32
          refine g_seq (fun K13 hK13 => ?_)
          refine g_region ?_
          refine g_step rfl (s_val (v_move rfl) rfl rfl ?_)
          refine g_step rfl (s_fieldAddr ty28 fo28_1 ty3 rfl rfl ?_)
          refine g_step rfl (s_val (v_loadl ty3 rfl rfl rfl rfl) rfl rfl ?_)
          refine g_step rfl (s_fieldAddr ty28 fo28_2 ty3 rfl rfl ?_)
          refine g_step rfl (s_val (v_loadl ty3 rfl rfl rfl rfl) rfl rfl ?_)
          refine g_step rfl (s_fieldAddr ty28 fo28_3 ty3 rfl rfl ?_)
          refine g_step rfl (s_val (v_loadl ty3 rfl rfl rfl rfl) rfl rfl ?_)
          refine g_step rfl (s_call rfl rfl rfl (tmSet_ok p r m x.id x.inc x.t _ hq_G_p hq_G_r) (fun b hb => .inr (by subst hb; exact hw_r)) ?_)
          rintro n3 r3 effs3 hn3 hdom3 ⟨rfl, rfl⟩ hok3
          generalize hE_G3 : setAll G [(r, tmRow (pput m x.id (⟨x.id, x.inc, x.t⟩ : Al)))] = G3
          have hs_G3 : H.sub G3 := by rw [← hE_G3]; exact sub_set' hs_G hz0_r
          have hq_G3_r : G3 r = some (tmRow (pput m x.id (⟨x.id, x.inc, x.t⟩ : Al))) := by rw [← hE_G3]; exact AHeap.get_set _ _ _
          have hq_G3_p : G3 p = some (.box (.agg [.map r])) := by rw [← hE_G3]; exact (AHeap.get_set_ne _ _ hpr_p).trans hq_G_p
          refine g_nil ?_
          refine g_next hK13 ?_
          refine g_region ?_
          refine g_step rfl (s_val (v_move rfl) rfl rfl ?_)
          refine g_step rfl (s_fieldAddr ty28 fo28_1 ty3 rfl rfl ?_)
          refine g_step rfl (s_val (v_loadl ty3 rfl rfl rfl rfl) rfl rfl ?_)
          refine g_step rfl (s_fieldAddr ty28 fo28_2 ty3 rfl rfl ?_)
          refine g_step rfl (s_val (v_loadl ty3 rfl rfl rfl rfl) rfl rfl ?_)
          refine g_step rfl (s_fieldAddr ty28 fo28_3 ty3 rfl rfl ?_)
          refine g_step rfl (s_val (v_loadl ty3 rfl rfl rfl rfl) rfl rfl ?_)
          refine g_step rfl (s_val (v_build (vs := [(0, _), (1, _), (2, _)]) (zs := [(.int .i64 0), (.int .i64 0), (.int .i64 0)]) (cells := [_, _, _]) ty32 pl32 rfl rfl rfl) rfl rfl ?_)
          refine g_step rfl (s_callp rfl rfl rfl (aPut_ok (tmAll m) (⟨x.id, x.inc, x.t⟩ : Al) _ _ rfl (by rw [tmAll_length]; omega)) ?_)
          rintro _ rfl
          rw [show aPut (tmAll m) (⟨x.id, x.inc, x.t⟩ : Al) = tmAll (pput m x.id (⟨x.id, x.inc, x.t⟩ : Al)) from put_all hok (⟨x.id, x.inc, x.t⟩ : Al)]
          refine g_step rfl (s_val (v_assign rfl) rfl rfl ?_)
          refine g_nil ?_
          first | refine g_keep [0, 1, 5, 6, 7] [] [] (keep_cons rfl (keep_cons rfl (keep_cons rfl (keep_cons rfl (keep_cons rfl keep_nil))))) lkeep_nil keep_nil rfl ?_ | refine g_keep [0, 1, 5, 6, 7] [] [] rfl rfl rfl rfl ?_
          first | exact g_has ⟨(pput m x.id (⟨x.id, x.inc, x.t⟩ : Al)), rfl, rfl, rfl, ⟨hok.put (⟨x.id, x.inc, x.t⟩ : Al), Nat.le_trans (pput_length _ _ _) (by omega), hq_G3_p, hq_G3_r, hs_G3⟩⟩ | exact g_has ⟨(pdel m x.id), rfl, rfl, rfl, ⟨hok.del _, Nat.le_trans (pdel_length _ _) (by omega), hq_G3_p, hq_G3_r, hs_G3⟩⟩ | exact g_has ⟨(tmRest m x.t), rfl, rfl, rfl, ⟨tmRest_ok hok _, Nat.le_trans (tmRest_length _ _) (by omega), hq_G3_p, hq_G3_r, hs_G3⟩⟩
        · try simp only [decide_eq_true_eq, decide_eq_false_iff_not, Bool.not_eq_true', Bool.not_eq_false', Bool.not_eq_eq_eq_not, Bool.not_true, Bool.not_false, Bool.and_eq_true, Bool.or_eq_true, Bool.or_eq_false_iff, beq_iff_eq, beq_eq_false_iff_ne, ne_eq, Int.not_lt, Int.not_le, Decidable.not_not] at hc32
          refine g_seq (fun K14 hK14 => ?_)
          refine g_region ?_
          refine g_step rfl (s_fieldAddr ty28 fo28_0 ty3 rfl rfl ?_)
          refine g_step rfl (s_val (v_loadl ty3 rfl rfl rfl rfl) rfl rfl ?_)
          refine g_step rfl (s_val (v_eql rfl rfl) rfl rfl ?_)
          refine g_nil ?_
          refine g_next hK14 ?_
          refine g_cond rfl (fun hc52 => ?_) (fun hc52 => ?_)
          · try simp only [decide_eq_true_eq, decide_eq_false_iff_not, Bool.not_eq_true', Bool.not_eq_false', Bool.not_eq_eq_eq_not, Bool.not_true, Bool.not_false, Bool.and_eq_true, Bool.or_eq_true, Bool.or_eq_false_iff, beq_iff_eq, beq_eq_false_iff_ne, ne_eq, Int.not_lt, Int.not_le, Decidable.not_not] at hc52
            refine g_seq (fun K15 hK15 => ?_)
            refine g_region ?_
            refine g_step rfl (s_val (v_move rfl) rfl rfl ?_)
            refine g_step rfl (s_fieldAddr ty28 fo28_1 ty3 rfl rfl ?_)
            refine g_step rfl (s_val (v_loadl ty3 rfl rfl rfl rfl) rfl rfl ?_)
            refine g_step rfl (s_call rfl rfl rfl (tmDrop_ok p r m x.id _ hq_G_p hq_G_r) (fun b hb => .inr (by subst hb; exact hw_r)) ?_)
            rintro n3 r3 effs3 hn3 hdom3 ⟨rfl, rfl⟩ hok3
            generalize hE_G3 : setAll G [(r, tmRow (pdel m x.id))] = G3
            have hs_G3 : H.sub G3 := by rw [← hE_G3]; exact sub_set' hs_G hz0_r
            have hq_G3_r : G3 r = some (tmRow (pdel m x.id)) := by rw [← hE_G3]; exact AHeap.get_set _ _ _
            have hq_G3_p : G3 p = some (.box (.agg [.map r])) := by rw [← hE_G3]; exact (AHeap.get_set_ne _ _ hpr_p).trans hq_G_p
            refine g_nil ?_
            refine g_next hK15 ?_
            refine g_region ?_
            refine g_step rfl (s_val (v_move rfl) rfl rfl ?_)
            refine g_step rfl (s_fieldAddr ty28 fo28_1 ty3 rfl rfl ?_)
            refine g_step rfl (s_val (v_loadl ty3 rfl rfl rfl rfl) rfl rfl ?_)
            refine g_step rfl (s_callp rfl rfl rfl (aWithout_ok (tmAll m) x.id _ _ rfl (by rw [tmAll_length]; omega)) ?_)
            rintro _ rfl
            rw [without_all hok x.id]
            refine g_step rfl (s_val (v_assign rfl) rfl rfl ?_)
            refine g_nil ?_
            first | refine g_keep [0, 1, 5, 6, 7] [] [] (keep_cons rfl (keep_cons rfl (keep_cons rfl (keep_cons rfl (keep_cons rfl keep_nil))))) lkeep_nil keep_nil rfl ?_ | refine g_keep [0, 1, 5, 6, 7] [] [] rfl rfl rfl rfl ?_
            first | exact g_has ⟨(pput m x.id (⟨x.id, x.inc, x.t⟩ : Al)), rfl, rfl, rfl, ⟨hok.put (⟨x.id, x.inc, x.t⟩ : Al), Nat.le_trans (pput_length _ _ _) (by omega), hq_G3_p, hq_G3_r, hs_G3⟩⟩ | exact g_has ⟨(pdel m x.id), rfl, rfl, rfl, ⟨hok.del _, Nat.le_trans (pdel_length _ _) (by omega), hq_G3_p, hq_G3_r, hs_G3⟩⟩ | exact g_has ⟨(tmRest m x.t), rfl, rfl, rfl, ⟨tmRest_ok hok _, Nat.le_trans (tmRest_length _ _) (by omega), hq_G3_p, hq_G3_r, hs_G3⟩⟩
          · try simp only [decide_eq_true_eq, decide_eq_false_iff_not, Bool.not_eq_true', Bool.not_eq_false', Bool.not_eq_eq_eq_not, Bool.not_true, Bool.not_false, Bool.and_eq_true, Bool.or_eq_true, Bool.or_eq_false_iff, beq_iff_eq, beq_eq_false_iff_ne, ne_eq, Int.not_lt, Int.not_le, Decidable.not_not] at hc52
            refine g_seq (fun K16 hK16 => ?_)
            refine g_region ?_
            obtain ⟨G0, hG0⟩ : ∃ G0, G0 = G := ⟨_, rfl⟩
            have hq_G0_p := hq_G_p
            have hq_G0_r := hq_G_r
            have hs_G0 := hs_G
            rw [← hG0] at hq_G0_p hq_G0_r hs_G0
            have hml : (tmAll m).length ≤ 100000 := (by rw [tmAll_length]; omega)
            refine g_step rfl (s_val (v_assign rfl) rfl rfl ?_)
            refine g_nil ?_
            refine g_next hK16 ?_
            refine g_seq (fun K17 hK17 => ?_)
            refine g_region ?_
            refine g_step rfl (s_val (v_assign rfl) rfl rfl ?_)
            refine g_nil ?_
            refine g_next hK17 ?_
            refine g_seq (fun K18 hK18 => ?_)
            refine g_seq (fun K19 hK19 => ?_)
            refine g_region ?_
            refine g_step rfl (s_val (v_assign rfl) rfl rfl ?_)
            refine g_nil ?_
            refine g_next hK19 ?_
            refine g_block ?_
            first | refine g_keep [0, 1, 5, 6, 7, 9, 10, 11] [8] [8] (keep_cons rfl (keep_cons rfl (keep_cons rfl (keep_cons rfl (keep_cons rfl (keep_cons rfl (keep_cons rfl (keep_cons rfl keep_nil)))))))) (lkeep_cons rfl lkeep_nil) (keep_cons rfl keep_nil) rfl ?_ | refine g_keep [0, 1, 5, 6, 7, 9, 10, 11] [8] [8] rfl rfl rfl rfl ?_
            refine g_loop (fun n env L B G => ∃ (j : Nat) (X1 : AHeap) (a9 a10 : AV), j ≤ (tmAll m).length ∧ n = (tmAll m).length - j ∧ env = [(0, .imm (l.map encTA)), (1, .int .i64 id), (5, .box p 0), (6, .imm ((tmAll m).map encAl)), (7, .int .i64 (k : Int)), (9, a9), (10, a10), (11, .int .i64 (j : Int))] ∧ L = [(8, 8, 0)] ∧ B = [(8, (encTA x))] ∧ Own w0.heap.size 3 X1 a9 (((((tmAll m).take j).filter (fun a : Al => decide (a.t ≤ x.t)))).map encAl) G ∧ Own w0.heap.size 3 G0 a10 (((((tmAll m).take j).filter (fun a : Al => !decide (a.t ≤ x.t)))).map encAl) X1) ((tmAll m).length) ⟨0, G, .nil0, .nil0, Nat.zero_le _, rfl, rfl, rfl, rfl, ⟨Own.nil .., by rw [hG0]; exact Own.nil ..⟩⟩ (fun n env L B G hI => ?_)
            obtain ⟨j, X1, a9, a10, hj, rfl, rfl, rfl, rfl, ho9, ho10⟩ := hI
            have hf1 := List.length_filter_le (fun a : Al => decide (a.t ≤ x.t)) ((tmAll m).take j)
            have hf2 := List.length_filter_le (fun a : Al => !decide (a.t ≤ x.t)) ((tmAll m).take j)
            have hftl : ((tmAll m).take j).length ≤ j := List.length_take_le _ _
            refine g_seq (fun K20 hK20 => ?_)
            refine g_seq (fun K21 hK21 => ?_)
            refine g_region ?_
            refine g_step rfl (s_val (v_move rfl) rfl rfl ?_)
            refine g_step rfl (s_val (v_move rfl) rfl rfl ?_)
            refine g_step rfl (s_val (v_len ty26 rfl (by first | rfl | assumption) (by first | exact List.length_map .. | rfl)) rfl rfl ?_)
            refine g_step rfl (s_val (v_lss rfl rfl) rfl rfl ?_)
            refine g_nil ?_
            refine g_next hK21 ?_
            refine g_cond rfl (fun hc64 => ?_) (fun hc64 => ?_)
            · try simp only [decide_eq_true_eq, decide_eq_false_iff_not, Bool.not_eq_true', Bool.not_eq_false', Bool.not_eq_eq_eq_not, Bool.not_true, Bool.not_false, Bool.and_eq_true, Bool.or_eq_true, Bool.or_eq_false_iff, beq_iff_eq, beq_eq_false_iff_ne, ne_eq, Int.not_lt, Int.not_le, Decidable.not_not] at hc64
              obtain ⟨a, ha⟩ := get_some (l := (tmAll m)) (k := j) (by omega)
              refine g_skip ?_
              refine g_next hK20 ?_
              refine g_seq (fun K22 hK22 => ?_)
              refine g_block ?_
              refine g_seq (fun K23 hK23 => ?_)
              refine g_draw (n := 8) (fun j => !([] : List Nat).contains j) rfl rfl ?_
              refine m_take 0 false rfl rfl (by kernel_rfl) (by kernel_rfl) (by kernel_rfl) (fun _ _ _ _ h => h) (v_move rfl) rfl rfl ?_
              refine m_take 1 false rfl rfl (by kernel_rfl) (by kernel_rfl) (by kernel_rfl) (fun _ _ _ _ h => h) (v_move rfl) rfl rfl ?_
              refine m_take 2 false rfl rfl (by kernel_rfl) (by kernel_rfl) (by kernel_rfl) (fun _ _ _ _ h => h) (v_indexAddr ty26 ty32 rfl rfl (by first | rfl | assumption) (by first | rfl | exact (rfl : (0 : Int) = ((0 : Nat) : Int)) | exact (Int.toNat_of_nonneg (by omega)).symm) (by first | assumption | exact map_get (by assumption) | rfl) rfl) rfl rfl ?_
              refine m_take 3 false rfl rfl (by kernel_rfl) (by kernel_rfl) (by kernel_rfl) (fun _ _ _ _ h => h) (by first | exact v_fieldAddr ty32 fo32_2 ty3 rfl | exact v_fieldAddr_box ty32 fo32_2 ty3 rfl) rfl rfl ?_
              refine m_take 4 true rfl rfl (by kernel_rfl) (by kernel_rfl) (by kernel_rfl) (fun _ _ _ _ h => h) (by first | exact v_load ty3 rfl rfl (by first | rfl | assumption) (by first | assumption | exact map_get (by assumption) | rfl) rfl | exact v_load_box ty3 rfl rfl (by assumption) rfl) rfl rfl ?_
              refine m_takel 5 rfl rfl (by kernel_rfl) (by kernel_rfl) (by kernel_rfl) (fun _ _ _ _ h => h) (vl_fieldAddr ty28 fo28_3 ty3 rfl) rfl rfl ?_
              refine m_take 6 true rfl rfl (by kernel_rfl) (by kernel_rfl) (by kernel_rfl) (fun _ _ _ _ h => h) (v_loadl ty3 rfl rfl rfl rfl) rfl rfl ?_
              refine m_take 7 false rfl rfl (by kernel_rfl) (by kernel_rfl) (by kernel_rfl) (fun _ _ _ _ h => h) (v_leq rfl rfl) rfl rfl ?_
              refine m_done (by kernel_rfl) ?_
              refine g_next hK23 ?_
              refine g_cond rfl (fun hc74 => ?_) (fun hc74 => ?_)
              · try simp only [decide_eq_true_eq, decide_eq_false_iff_not, Bool.not_eq_true', Bool.not_eq_false', Bool.not_eq_eq_eq_not, Bool.not_true, Bool.not_false, Bool.and_eq_true, Bool.or_eq_true, Bool.or_eq_false_iff, beq_iff_eq, beq_eq_false_iff_ne, ne_eq, Int.not_lt, Int.not_le, Decidable.not_not] at hc74
                refine g_region ?_
                refine g_step rfl (s_val (v_move rfl) rfl rfl ?_)
                refine g_step rfl (s_val (v_move rfl) rfl rfl ?_)
                refine g_step rfl (s_val (v_move rfl) rfl rfl ?_)
                refine g_step rfl (s_val (v_indexAddr ty26 ty32 rfl rfl (by first | rfl | assumption) (by first | rfl | exact (rfl : (0 : Int) = ((0 : Nat) : Int)) | exact (Int.toNat_of_nonneg (by omega)).symm) (by first | assumption | exact map_get (by assumption) | rfl) rfl) rfl rfl ?_)
                refine g_step rfl (s_val (by first | exact v_load_elt ty32 rfl rfl (by first | rfl | assumption) (by first | assumption | exact map_get (by assumption) | rfl) rfl rfl | exact v_load_box_all ty32 rfl rfl (by assumption) rfl rfl | exact v_load_part (cs := [_, _, _]) ty32 rfl rfl (by first | rfl | assumption) (by first | assumption | exact map_get (by assumption) | rfl) rfl rfl rfl | exact v_load_box_part (cs := [_, _, _]) ty32 rfl rfl (by assumption) rfl rfl rfl) rfl rfl ?_)
                refine g_step rfl (s_lit ty26 ty32 rfl rfl rfl rfl rfl rfl rfl ?_)
                refine g_step rfl (s_append (l := (((((tmAll m).take j).filter (fun a : Al => decide (a.t ≤ x.t)))).map encAl)) (m := ([a].map encAl)) ty26 ty32 rfl rfl ho9 rfl rfl (by refine Even.map _ ?_ _; intro _; rfl) (by intro x hx; obtain ⟨_, _, rfl⟩ := List.mem_map.1 hx; rfl) rfl (by simp; omega) (by simp; omega) ?_)
                intro av81 G81 h81
                refine g_step rfl (s_val (v_assign rfl) rfl rfl ?_)
                refine g_nil ?_
                refine g_block_normal ?_
                refine g_next hK22 ?_
                first | refine g_keep [0, 1, 5, 6, 7, 9, 10, 11] [8] [8] (keep_cons rfl (keep_cons rfl (keep_cons rfl (keep_cons rfl (keep_cons rfl (keep_cons rfl (keep_cons rfl (keep_cons rfl keep_nil)))))))) (lkeep_cons rfl lkeep_nil) (keep_cons rfl keep_nil) rfl ?_ | refine g_keep [0, 1, 5, 6, 7, 9, 10, 11] [8] [8] rfl rfl rfl rfl ?_
                refine g_region ?_
                refine g_step rfl (s_val (v_move rfl) rfl rfl ?_)
                refine g_step rfl (s_val (v_add rfl rfl (by omega)) rfl rfl ?_)
                refine g_step rfl (s_val (v_assign rfl) rfl rfl ?_)
                refine g_nil ?_
                first | refine g_keep [0, 1, 5, 6, 7, 9, 10, 11] [8] [8] (keep_cons rfl (keep_cons rfl (keep_cons rfl (keep_cons rfl (keep_cons rfl (keep_cons rfl (keep_cons rfl (keep_cons rfl keep_nil)))))))) (lkeep_cons rfl lkeep_nil) (keep_cons rfl keep_nil) rfl ?_ | refine g_keep [0, 1, 5, 6, 7, 9, 10, 11] [8] [8] rfl rfl rfl rfl ?_
                first | exact g_round _ (by omega) ⟨j + 1, X1, av81, a10, by omega, rfl, rfl, rfl, rfl, ⟨by rw [filter_snoc ha, if_pos (by simpa using hc74), List.map_append]; exact h81, by rw [filter_snoc ha, if_neg (by simpa using hc74), List.append_nil]; exact ho10⟩⟩ | exact g_round _ (by omega) ⟨j + 1, Y, a9, av88, by omega, rfl, rfl, rfl, rfl, ⟨by rw [filter_snoc ha, if_neg (by simpa using hc74), List.append_nil]; exact y9, by rw [filter_snoc ha, if_pos (by simpa using hc74), List.map_append]; exact y10⟩⟩
              · try simp only [decide_eq_true_eq, decide_eq_false_iff_not, Bool.not_eq_true', Bool.not_eq_false', Bool.not_eq_eq_eq_not, Bool.not_true, Bool.not_false, Bool.and_eq_true, Bool.or_eq_true, Bool.or_eq_false_iff, beq_iff_eq, beq_eq_false_iff_ne, ne_eq, Int.not_lt, Int.not_le, Decidable.not_not] at hc74
                refine g_region ?_
                obtain ⟨Z, z10, z9⟩ := own_swap ho9 ho10
                refine g_step rfl (s_val (v_move rfl) rfl rfl ?_)
                refine g_step rfl (s_val (v_move rfl) rfl rfl ?_)
                refine g_step rfl (s_val (v_move rfl) rfl rfl ?_)
                refine g_step rfl (s_val (v_indexAddr ty26 ty32 rfl rfl (by first | rfl | assumption) (by first | rfl | exact (rfl : (0 : Int) = ((0 : Nat) : Int)) | exact (Int.toNat_of_nonneg (by omega)).symm) (by first | assumption | exact map_get (by assumption) | rfl) rfl) rfl rfl ?_)
                refine g_step rfl (s_val (by first | exact v_load_elt ty32 rfl rfl (by first | rfl | assumption) (by first | assumption | exact map_get (by assumption) | rfl) rfl rfl | exact v_load_box_all ty32 rfl rfl (by assumption) rfl rfl | exact v_load_part (cs := [_, _, _]) ty32 rfl rfl (by first | rfl | assumption) (by first | assumption | exact map_get (by assumption) | rfl) rfl rfl rfl | exact v_load_box_part (cs := [_, _, _]) ty32 rfl rfl (by assumption) rfl rfl rfl) rfl rfl ?_)
                refine g_step rfl (s_lit ty26 ty32 rfl rfl rfl rfl rfl rfl rfl ?_)
                refine g_step rfl (s_append (l := (((((tmAll m).take j).filter (fun a : Al => !decide (a.t ≤ x.t)))).map encAl)) (m := ([a].map encAl)) ty26 ty32 rfl rfl z10 rfl rfl (by refine Even.map _ ?_ _; intro _; rfl) (by intro x hx; obtain ⟨_, _, rfl⟩ := List.mem_map.1 hx; rfl) rfl (by simp; omega) (by simp; omega) ?_)
                intro av88 G88 h88
                obtain ⟨Y, y9, y10⟩ := own_swap h88 z9
                refine g_step rfl (s_val (v_assign rfl) rfl rfl ?_)
                refine g_nil ?_
                refine g_block_normal ?_
                refine g_next hK22 ?_
                first | refine g_keep [0, 1, 5, 6, 7, 9, 10, 11] [8] [8] (keep_cons rfl (keep_cons rfl (keep_cons rfl (keep_cons rfl (keep_cons rfl (keep_cons rfl (keep_cons rfl (keep_cons rfl keep_nil)))))))) (lkeep_cons rfl lkeep_nil) (keep_cons rfl keep_nil) rfl ?_ | refine g_keep [0, 1, 5, 6, 7, 9, 10, 11] [8] [8] rfl rfl rfl rfl ?_
                refine g_region ?_
                refine g_step rfl (s_val (v_move rfl) rfl rfl ?_)
                refine g_step rfl (s_val (v_add rfl rfl (by omega)) rfl rfl ?_)
                refine g_step rfl (s_val (v_assign rfl) rfl rfl ?_)
                refine g_nil ?_
                first | refine g_keep [0, 1, 5, 6, 7, 9, 10, 11] [8] [8] (keep_cons rfl (keep_cons rfl (keep_cons rfl (keep_cons rfl (keep_cons rfl (keep_cons rfl (keep_cons rfl (keep_cons rfl keep_nil)))))))) (lkeep_cons rfl lkeep_nil) (keep_cons rfl keep_nil) rfl ?_ | refine g_keep [0, 1, 5, 6, 7, 9, 10, 11] [8] [8] rfl rfl rfl rfl ?_
                first | exact g_round _ (by omega) ⟨j + 1, X1, av81, a10, by omega, rfl, rfl, rfl, rfl, ⟨by rw [filter_snoc ha, if_pos (by simpa using hc74), List.map_append]; exact h81, by rw [filter_snoc ha, if_neg (by simpa using hc74), List.append_nil]; exact ho10⟩⟩ | exact g_round _ (by omega) ⟨j + 1, Y, a9, av88, by omega, rfl, rfl, rfl, rfl, ⟨by rw [filter_snoc ha, if_neg (by simpa using hc74), List.append_nil]; exact y9, by rw [filter_snoc ha, if_pos (by simpa using hc74), List.map_append]; exact y10⟩⟩
            · try simp only [decide_eq_true_eq, decide_eq_false_iff_not, Bool.not_eq_true', Bool.not_eq_false', Bool.not_eq_eq_eq_not, Bool.not_true, Bool.not_false, Bool.and_eq_true, Bool.or_eq_true, Bool.or_eq_false_iff, beq_iff_eq, beq_eq_false_iff_ne, ne_eq, Int.not_lt, Int.not_le, Decidable.not_not] at hc64
              obtain rfl : j = (tmAll m).length := by omega
              rw [List.take_length] at ho9 ho10
              refine g_exit ?_
              refine g_then_exit ?_
              refine g_then_exit ?_
              refine g_block_same ?_
              refine g_next hK18 ?_
              refine g_seq (fun K24 hK24 => ?_)
              refine g_seq (fun K25 hK25 => ?_)
              refine g_region ?_
              refine g_freeze 9 rfl ho9 ?_
              refine g_freeze 10 rfl ho10 ?_
              refine g_step rfl (s_val (v_move rfl) rfl rfl ?_)
              refine g_step rfl (s_fieldAddr ty28 fo28_3 ty3 rfl rfl ?_)
              refine g_step rfl (s_val (v_loadl ty3 rfl rfl rfl rfl) rfl rfl ?_)
              refine g_step rfl (s_call rfl rfl rfl (tmDue_ok p r m x.t _ hq_G0_p hq_G0_r (by omega)) (fun b hb => .inr (by subst hb; exact hw_r)) ?_)
              rintro n3 r3 effs3 hn3 hdom3 ⟨rfl, rfl⟩ hok3
              generalize hE_G3 : setAll G0 [(r, tmRow (tmRest m x.t))] = G3
              have hs_G3 : H.sub G3 := by rw [← hE_G3]; exact sub_set' hs_G0 hz0_r
              have hq_G3_r : G3 r = some (tmRow (tmRest m x.t)) := by rw [← hE_G3]; exact AHeap.get_set _ _ _
              have hq_G3_p : G3 p = some (.box (.agg [.map r])) := by rw [← hE_G3]; exact (AHeap.get_set_ne _ _ hpr_p).trans hq_G0_p
              refine g_step rfl (s_val (v_move rfl) rfl rfl ?_)
              refine g_step rfl (s_callp rfl rfl rfl (same21_ok (tmDue m x.t) ((tmAll m).filter (fun a : Al => decide (a.t ≤ x.t))) _ _ _ rfl rfl (Nat.le_trans (List.length_filter_le _ _) (by rw [tmAll_length]; omega)) (Nat.le_trans (List.length_filter_le _ _) (by rw [tmAll_length]; omega))) ?_)
              rintro _ rfl
              rw [show decide (tmDue m x.t = (tmAll m).filter (fun a : Al => decide (a.t ≤ x.t))) = true from decide_eq_true rfl]
              refine g_step rfl (s_val (v_not rfl) rfl rfl ?_)
              refine g_nil ?_
              refine g_next hK25 ?_
              refine g_cond rfl (fun hc95 => ?_) (fun hc95 => ?_)
              · exfalso; (try simp only [decide_eq_true_eq, decide_eq_false_iff_not, Bool.not_eq_true', Bool.not_eq_false', Bool.not_eq_eq_eq_not, Bool.not_true, Bool.not_false, Bool.and_eq_true, Bool.or_eq_true, Bool.or_eq_false_iff, beq_iff_eq, beq_eq_false_iff_ne, ne_eq, Int.not_lt, Int.not_le, Decidable.not_not] at hc95); simp at hc95
              · try simp only [decide_eq_true_eq, decide_eq_false_iff_not, Bool.not_eq_true', Bool.not_eq_false', Bool.not_eq_eq_eq_not, Bool.not_true, Bool.not_false, Bool.and_eq_true, Bool.or_eq_true, Bool.or_eq_false_iff, beq_iff_eq, beq_eq_false_iff_ne, ne_eq, Int.not_lt, Int.not_le, Decidable.not_not] at hc95
                refine g_skip ?_
                refine g_next hK24 ?_
                refine g_region ?_
                rw [show (tmAll m).filter (fun a : Al => !decide (a.t ≤ x.t)) = tmAll (tmRest m x.t) from (rest_all hok x.t).symm]
                refine g_step rfl (s_val (v_move rfl) rfl rfl ?_)
                refine g_step rfl (s_val (v_assign rfl) rfl rfl ?_)
                refine g_nil ?_
                first | refine g_keep [0, 1, 5, 6, 7] [] [] (keep_cons rfl (keep_cons rfl (keep_cons rfl (keep_cons rfl (keep_cons rfl keep_nil))))) lkeep_nil keep_nil rfl ?_ | refine g_keep [0, 1, 5, 6, 7] [] [] rfl rfl rfl rfl ?_
                first | exact g_has ⟨(pput m x.id (⟨x.id, x.inc, x.t⟩ : Al)), rfl, rfl, rfl, ⟨hok.put (⟨x.id, x.inc, x.t⟩ : Al), Nat.le_trans (pput_length _ _ _) (by omega), hq_G3_p, hq_G3_r, hs_G3⟩⟩ | exact g_has ⟨(pdel m x.id), rfl, rfl, rfl, ⟨hok.del _, Nat.le_trans (pdel_length _ _) (by omega), hq_G3_p, hq_G3_r, hs_G3⟩⟩ | exact g_has ⟨(tmRest m x.t), rfl, rfl, rfl, ⟨tmRest_ok hok _, Nat.le_trans (tmRest_length _ _) (by omega), hq_G3_p, hq_G3_r, hs_G3⟩⟩
      · skip
        obtain ⟨m', rfl, rfl, rfl, hok', hmk', hq_X_p, hq_X_r, hs_X⟩ := hI
        refine g_seq (fun K26 hK26 => ?_)
        refine g_region ?_
        refine g_step rfl (s_val (v_move rfl) rfl rfl ?_)
        refine g_step rfl (s_callp rfl rfl rfl (tmAll_ok p r m' _ hq_X_p hq_X_r (by omega)) ?_)
        rintro _ rfl
        refine g_step rfl (s_val (v_move rfl) rfl rfl ?_)
        refine g_step rfl (s_callp rfl rfl rfl (same21_ok (tmAll m') (tmAll m') _ _ _ rfl rfl (by rw [tmAll_length]; omega) (by rw [tmAll_length]; omega)) ?_)
        rintro _ rfl
        rw [decide_eq_true rfl]
        refine g_step rfl (s_val (v_not rfl) rfl rfl ?_)
        refine g_nil ?_
        refine g_next hK26 ?_
        refine g_cond rfl (fun hc101 => ?_) (fun hc101 => ?_)
        · exfalso; (try simp only [decide_eq_true_eq, decide_eq_false_iff_not, Bool.not_eq_true', Bool.not_eq_false', Bool.not_eq_eq_eq_not, Bool.not_true, Bool.not_false, Bool.and_eq_true, Bool.or_eq_true, Bool.or_eq_false_iff, beq_iff_eq, beq_eq_false_iff_ne, ne_eq, Int.not_lt, Int.not_le, Decidable.not_not] at hc101); simp at hc101
        · try simp only [decide_eq_true_eq, decide_eq_false_iff_not, Bool.not_eq_true', Bool.not_eq_false', Bool.not_eq_eq_eq_not, Bool.not_true, Bool.not_false, Bool.and_eq_true, Bool.or_eq_true, Bool.or_eq_false_iff, beq_iff_eq, beq_eq_false_iff_ne, ne_eq, Int.not_lt, Int.not_le, Decidable.not_not] at hc101
          refine g_skip ?_
          refine g_block_normal ?_
          refine g_next hK10 ?_
          refine g_region ?_
          refine g_step rfl (s_val (v_move rfl) rfl rfl ?_)
          refine g_step rfl (s_val (v_add rfl rfl (by omega)) rfl rfl ?_)
          refine g_step rfl (s_val (v_assign rfl) rfl rfl ?_)
          refine g_nil ?_
          first | refine g_keep [0, 1, 5, 6, 7] [] [] (keep_cons rfl (keep_cons rfl (keep_cons rfl (keep_cons rfl (keep_cons rfl keep_nil))))) lkeep_nil keep_nil rfl ?_ | refine g_keep [0, 1, 5, 6, 7] [] [] rfl rfl rfl rfl ?_
          exact g_round _ (by omega) ⟨k + 1, m', by omega, rfl, rfl, rfl, rfl, ⟨hok', hmk', hq_X_p, hq_X_r, hs_X⟩⟩
    · try simp only [decide_eq_true_eq, decide_eq_false_iff_not, Bool.not_eq_true', Bool.not_eq_false', Bool.not_eq_eq_eq_not, Bool.not_true, Bool.not_false, Bool.and_eq_true, Bool.or_eq_true, Bool.or_eq_false_iff, beq_iff_eq, beq_eq_false_iff_ne, ne_eq, Int.not_lt, Int.not_le, Decidable.not_not] at hc23
      obtain rfl : k = l.length := by omega
      refine g_exit ?_
      refine g_then_exit ?_
      refine g_then_exit ?_
      refine g_block_same ?_
      refine g_next hK6 ?_
      refine g_seq (fun K27 hK27 => ?_)
      refine g_region ?_
      obtain ⟨G0, hG0⟩ : ∃ G0, G0 = G := ⟨_, rfl⟩
      refine g_step rfl (s_val (v_move rfl) rfl rfl ?_)
      refine g_step rfl (s_val (v_move rfl) rfl rfl ?_)
      refine g_step rfl (s_callp rfl rfl rfl (tmGet_ok p r m id _ hq_G_p hq_G_r) ?_)
      rintro _ rfl
      refine g_step rfl (s_val (v_move rfl) rfl rfl ?_)
      refine g_step rfl (s_val (v_extract rfl rfl) rfl rfl ?_)
      refine g_step rfl (s_val (v_extract rfl rfl) rfl rfl ?_)
      refine g_step rfl (s_alloc (av := (.agg [(.int .i64 0), (.int .i64 0), (.int .i64 0)])) ty32 rfl rfl rfl rfl ?_)
      refine g_step rfl (s_store_all ty32 rfl rfl rfl rfl rfl rfl ?_)
      refine g_step rfl (s_val (v_assign rfl) rfl rfl ?_)
      refine g_nil ?_
      refine g_next hK27 ?_
      refine g_seq (fun K28 hK28 => ?_)
      refine g_seq (fun K29 hK29 => ?_)
      refine g_region ?_
      refine g_step rfl (s_val (v_assign rfl) rfl rfl ?_)
      refine g_nil ?_
      refine g_next hK29 ?_
      refine g_block ?_
      first | refine g_keep [1, 6, 13, 14] [12] [12] (keep_cons rfl (keep_cons rfl (keep_cons rfl (keep_cons rfl keep_nil)))) (lkeep_cons rfl lkeep_nil) (keep_cons rfl keep_nil) rfl ?_ | refine g_keep [1, 6, 13, 14] [12] [12] rfl rfl rfl rfl ?_
      refine g_loop (fun n env L B G => ∃ (i : Nat) , i ≤ (tmAll m).length ∧ n = (tmAll m).length - i ∧ env = [(1, .int .i64 id), (6, .imm ((tmAll m).map encAl)), (13, .bool (pget m id).isSome), (14, .int .i64 (i : Int))] ∧ L = [(12, 12, 0)] ∧ B = [(12, (encAl (alOf m id)))] ∧ G0 = G ∧ ∀ a ∈ (tmAll m).take i, a.id ≠ id) ((tmAll m).length) ⟨0, Nat.zero_le _, rfl, rfl, rfl, rfl, hG0, (fun a h => by cases h)⟩ (fun n env L B G hI => ?_)
      obtain ⟨i, hi, rfl, rfl, rfl, rfl, rfl, hno⟩ := hI
      have hml : (tmAll m).length ≤ 100000 := (by rw [tmAll_length]; omega)
      refine g_seq (fun K30 hK30 => ?_)
      refine g_seq (fun K31 hK31 => ?_)
      refine g_region ?_
      refine g_step rfl (s_val (v_move rfl) rfl rfl ?_)
      refine g_step rfl (s_val (v_move rfl) rfl rfl ?_)
      refine g_step rfl (s_val (v_len ty26 rfl (by first | rfl | assumption) (by first | exact List.length_map .. | rfl)) rfl rfl ?_)
      refine g_step rfl (s_val (v_lss rfl rfl) rfl rfl ?_)
      refine g_nil ?_
      refine g_next hK31 ?_
      refine g_cond rfl (fun hc111 => ?_) (fun hc111 => ?_)
      · try simp only [decide_eq_true_eq, decide_eq_false_iff_not, Bool.not_eq_true', Bool.not_eq_false', Bool.not_eq_eq_eq_not, Bool.not_true, Bool.not_false, Bool.and_eq_true, Bool.or_eq_true, Bool.or_eq_false_iff, beq_iff_eq, beq_eq_false_iff_ne, ne_eq, Int.not_lt, Int.not_le, Decidable.not_not] at hc111
        obtain ⟨a, ha⟩ := get_some (l := (tmAll m)) (k := i) (by omega)
        refine g_skip ?_
        refine g_next hK30 ?_
        refine g_seq (fun K32 hK32 => ?_)
        refine g_block ?_
        refine g_seq (fun K33 hK33 => ?_)
        refine g_region ?_
        refine g_step rfl (s_val (v_move rfl) rfl rfl ?_)
        refine g_step rfl (s_val (v_move rfl) rfl rfl ?_)
        refine g_step rfl (s_val (v_indexAddr ty26 ty32 rfl rfl (by first | rfl | assumption) (by first | rfl | exact (rfl : (0 : Int) = ((0 : Nat) : Int)) | exact (Int.toNat_of_nonneg (by omega)).symm) (by first | assumption | exact map_get (by assumption) | rfl) rfl) rfl rfl ?_)
        refine g_step rfl (s_val (by first | exact v_fieldAddr ty32 fo32_0 ty3 rfl | exact v_fieldAddr_box ty32 fo32_0 ty3 rfl) rfl rfl ?_)
        refine g_step rfl (s_val (by first | exact v_load ty3 rfl rfl (by first | rfl | assumption) (by first | assumption | exact map_get (by assumption) | rfl) rfl | exact v_load_box ty3 rfl rfl (by assumption) rfl) rfl rfl ?_)
        refine g_step rfl (s_val (v_move rfl) rfl rfl ?_)
        refine g_step rfl (s_val (v_eql rfl rfl) rfl rfl ?_)
        refine g_nil ?_
        refine g_next hK33 ?_
        refine g_cond rfl (fun hc120 => ?_) (fun hc120 => ?_)
        · try simp only [decide_eq_true_eq, decide_eq_false_iff_not, Bool.not_eq_true', Bool.not_eq_false', Bool.not_eq_eq_eq_not, Bool.not_true, Bool.not_false, Bool.and_eq_true, Bool.or_eq_true, Bool.or_eq_false_iff, beq_iff_eq, beq_eq_false_iff_ne, ne_eq, Int.not_lt, Int.not_le, Decidable.not_not] at hc120
          have hga : pget m id = some a := by have := tm_some hok (mem_get ha); rw [hc120] at this; exact this
          have hal : alOf m id = a := by rw [alOf, hga]; rfl
          rw [show (pget m id).isSome = true by rw [hga]; rfl, hal]
          refine g_seq (fun K34 hK34 => ?_)
          refine g_draw (n := 15) (fun j => !([] : List Nat).contains j) rfl rfl ?_
          refine m_take 0 false rfl rfl (by kernel_rfl) (by kernel_rfl) (by kernel_rfl) (fun _ _ _ _ h => h) (v_move rfl) rfl rfl ?_
          refine m_take 1 false rfl rfl (by kernel_rfl) (by kernel_rfl) (by kernel_rfl) (fun _ _ _ _ h => h) (v_move rfl) rfl rfl ?_
          refine m_split 122 rfl (fun hg122 => ?_) (fun hg122 => ?_)
          · try simp only [decide_eq_true_eq, decide_eq_false_iff_not, Bool.not_eq_true', Bool.not_eq_false', Bool.not_eq_eq_eq_not, Bool.not_true, Bool.not_false, Bool.and_eq_true, Bool.or_eq_true, Bool.or_eq_false_iff, beq_iff_eq, beq_eq_false_iff_ne, ne_eq, Int.not_lt, Int.not_le, Decidable.not_not] at hg122
            refine m_take_yes (j := 1) (t := 122) 2 true rfl rfl rfl rfl rfl (by kernel_rfl) (by kernel_rfl) (by kernel_rfl) (fun _ _ _ _ h => h) (by first | exact v_loadl_all ty32 rfl rfl rfl rfl rfl | exact v_loadl_part (cs := [_, _, _]) ty32 rfl rfl rfl rfl rfl rfl) rfl rfl ?_
            refine m_take_yes (j := 1) (t := 122) 4 false rfl rfl rfl rfl rfl (by kernel_rfl) (by kernel_rfl) (by kernel_rfl) (fun _ _ _ _ h => h) (v_move rfl) rfl rfl ?_
            refine m_take_yes (j := 1) (t := 122) 5 false rfl rfl rfl rfl rfl (by kernel_rfl) (by kernel_rfl) (by kernel_rfl) (fun _ _ _ _ h => h) (v_move rfl) rfl rfl ?_
            refine m_take_yes (j := 1) (t := 122) 6 false rfl rfl rfl rfl rfl (by kernel_rfl) (by kernel_rfl) (by kernel_rfl) (fun _ _ _ _ h => h) (v_move rfl) rfl rfl ?_
            refine m_take_yes (j := 1) (t := 122) 7 false rfl rfl rfl rfl rfl (by kernel_rfl) (by kernel_rfl) (by kernel_rfl) (fun _ _ _ _ h => h) (v_add rfl rfl (by omega)) rfl rfl ?_
            refine m_take_yes (j := 1) (t := 122) 8 false rfl rfl rfl rfl rfl (by kernel_rfl) (by kernel_rfl) (by kernel_rfl) (fun _ _ _ _ h => h) (v_slice_imm (lo := i) (hi := (i + 1)) (m := ([a].map encAl)) ty26 ty32 rfl rfl rfl (by first | rfl | (exact (rfl : (0 : Int) = ((0 : Nat) : Int))) | omega | (simp <;> omega)) (by first | rfl | (exact (rfl : (0 : Int) = ((0 : Nat) : Int))) | omega | (simp <;> omega)) (by first | omega | (simp <;> omega)) (by first | omega | (simp <;> omega)) (by refine Even.map _ ?_ _; intro _; rfl) (by rw [← List.map_take, ← List.map_drop, drop_take_one ha])) rfl rfl ?_
            refine m_one_yes (j := 1) (t := 122) 3 (by kernel_rfl) rfl rfl rfl rfl rfl ?_
            refine sm_lit ty26 ty32 rfl rfl rfl rfl rfl rfl rfl ?_
            refine m_one_yes (j := 1) (t := 122) 9 (by kernel_rfl) rfl rfl rfl rfl rfl ?_
            refine sm_callp rfl rfl rfl (same21_ok [a] [a] _ _ _ rfl rfl (by simp) (by simp)) ?_
            rintro _ rfl
            rw [decide_eq_true rfl]
            refine m_take 10 false rfl rfl (by kernel_rfl) (by kernel_rfl) (by kernel_rfl) (fun _ _ _ _ h => h) (v_pick_t rfl rfl) rfl rfl ?_
            refine m_take 11 false rfl rfl (by kernel_rfl) (by kernel_rfl) (by kernel_rfl) (fun _ _ _ _ h => h) (v_move rfl) rfl rfl ?_
            refine m_split 132 rfl (fun hg132 => ?_) (fun hg132 => ?_)
            · try simp only [decide_eq_true_eq, decide_eq_false_iff_not, Bool.not_eq_true', Bool.not_eq_false', Bool.not_eq_eq_eq_not, Bool.not_true, Bool.not_false, Bool.and_eq_true, Bool.or_eq_true, Bool.or_eq_false_iff, beq_iff_eq, beq_eq_false_iff_ne, ne_eq, Int.not_lt, Int.not_le, Decidable.not_not] at hg132
              refine m_one_yes (j := 11) (t := 132) 12 (by kernel_rfl) rfl rfl rfl rfl rfl ?_
              refine sm_callp rfl rfl rfl (awake21_ok _) ?_
              rintro _ rfl
              refine m_take 13 false rfl rfl (by kernel_rfl) (by kernel_rfl) (by kernel_rfl) (fun _ _ _ _ h => h) (v_pick_t rfl rfl) rfl rfl ?_
              refine m_take 14 false rfl rfl (by kernel_rfl) (by kernel_rfl) (by kernel_rfl) (fun _ _ _ _ h => h) (v_assign rfl) rfl rfl ?_
              refine m_done (by kernel_rfl) ?_
              refine g_next hK34 ?_
              first | refine g_keep [4] [] [] (keep_cons rfl keep_nil) lkeep_nil keep_nil rfl ?_ | refine g_keep [4] [] [] rfl rfl rfl rfl ?_
              refine g_ret ?_
              refine g_block_ret ?_
              refine g_then_ret ?_
              refine g_then_ret ?_
              refine g_block_ret ?_
              refine g_then_ret ?_
              refine g_end1 (.inl rfl) Try.results3 (.tmp rfl) [] (ASub.refl _) (by first | exact hs_G | exact hG0 ▸ hs_G | exact AHeap.sub_set (hG0 ▸ hs_G) (by assumption) | exact AHeap.sub_refl _) (fun p hp => by cases hp) ⟨rfl, ?_⟩
              rfl
            · exfalso; (try simp only [decide_eq_true_eq, decide_eq_false_iff_not, Bool.not_eq_true', Bool.not_eq_false', Bool.not_eq_eq_eq_not, Bool.not_true, Bool.not_false, Bool.and_eq_true, Bool.or_eq_true, Bool.or_eq_false_iff, beq_iff_eq, beq_eq_false_iff_ne, ne_eq, Int.not_lt, Int.not_le, Decidable.not_not] at hg132); cases hg132
          · exfalso; (try simp only [decide_eq_true_eq, decide_eq_false_iff_not, Bool.not_eq_true', Bool.not_eq_false', Bool.not_eq_eq_eq_not, Bool.not_true, Bool.not_false, Bool.and_eq_true, Bool.or_eq_true, Bool.or_eq_false_iff, beq_iff_eq, beq_eq_false_iff_ne, ne_eq, Int.not_lt, Int.not_le, Decidable.not_not] at hg122); cases hg122
        · try simp only [decide_eq_true_eq, decide_eq_false_iff_not, Bool.not_eq_true', Bool.not_eq_false', Bool.not_eq_eq_eq_not, Bool.not_true, Bool.not_false, Bool.and_eq_true, Bool.or_eq_true, Bool.or_eq_false_iff, beq_iff_eq, beq_eq_false_iff_ne, ne_eq, Int.not_lt, Int.not_le, Decidable.not_not] at hc120
          refine g_skip ?_
          refine g_block_normal ?_
          refine g_next hK32 ?_
          refine g_region ?_
          refine g_step rfl (s_val (v_move rfl) rfl rfl ?_)
          refine g_step rfl (s_val (v_add rfl rfl (by omega)) rfl rfl ?_)
          refine g_step rfl (s_val (v_assign rfl) rfl rfl ?_)
          refine g_nil ?_
          first | refine g_keep [1, 6, 13, 14] [12] [12] (keep_cons rfl (keep_cons rfl (keep_cons rfl (keep_cons rfl keep_nil)))) (lkeep_cons rfl lkeep_nil) (keep_cons rfl keep_nil) rfl ?_ | refine g_keep [1, 6, 13, 14] [12] [12] rfl rfl rfl rfl ?_
          exact g_round _ (by omega) ⟨i + 1, by omega, rfl, rfl, rfl, rfl, rfl, (fun b hb => by rw [List.take_add_one, ha] at hb; rcases List.mem_append.1 hb with h | h; exact hno b h; simp at h; subst h; exact hc120)⟩
      · try simp only [decide_eq_true_eq, decide_eq_false_iff_not, Bool.not_eq_true', Bool.not_eq_false', Bool.not_eq_eq_eq_not, Bool.not_true, Bool.not_false, Bool.and_eq_true, Bool.or_eq_true, Bool.or_eq_false_iff, beq_iff_eq, beq_eq_false_iff_ne, ne_eq, Int.not_lt, Int.not_le, Decidable.not_not] at hc111
        obtain rfl : i = (tmAll m).length := by omega
        refine g_exit ?_
        refine g_then_exit ?_
        refine g_then_exit ?_
        refine g_block_same ?_
        refine g_next hK28 ?_
        refine g_seq (fun K35 hK35 => ?_)
        refine g_draw (n := 12) (fun j => !([5] : List Nat).contains j) rfl rfl ?_
        rw [List.take_length] at hno
        have hgn := tm_none hok hno
        rw [show (pget m id).isSome = false by rw [hgn]; rfl, show alOf m id = alz by rw [alOf, hgn]; rfl]
        refine m_take 0 false rfl rfl (by kernel_rfl) (by kernel_rfl) (by kernel_rfl) (fun _ _ _ _ h => h) (v_move rfl) rfl rfl ?_
        refine m_take 1 false rfl rfl (by kernel_rfl) (by kernel_rfl) (by kernel_rfl) (fun _ _ _ _ h => h) (v_not rfl) rfl rfl ?_
        refine m_take 2 false rfl rfl (by kernel_rfl) (by kernel_rfl) (by kernel_rfl) (fun _ _ _ _ h => h) (v_move rfl) rfl rfl ?_
        refine m_split 137 rfl (fun hg137 => ?_) (fun hg137 => ?_)
        · try simp only [decide_eq_true_eq, decide_eq_false_iff_not, Bool.not_eq_true', Bool.not_eq_false', Bool.not_eq_eq_eq_not, Bool.not_true, Bool.not_false, Bool.and_eq_true, Bool.or_eq_true, Bool.or_eq_false_iff, beq_iff_eq, beq_eq_false_iff_ne, ne_eq, Int.not_lt, Int.not_le, Decidable.not_not] at hg137
          refine m_all (is := [3, 5]) (by kernel_rfl) rfl (fun _ _ _ => trivial) (fun i hi => ?_)
          rcases (by simpa using hi : i = 3 ∨ i = 5) with rfl | rfl
          · refine ⟨_, rfl, .inr ⟨2, 137, _, rfl, rfl, rfl, rfl, ?_⟩⟩
            refine sm_val (by first | exact v_loadl_all ty32 rfl rfl rfl rfl rfl | exact v_loadl_part (cs := [_, _, _]) ty32 rfl rfl rfl rfl rfl rfl) rfl rfl ?_
            refine m_all (is := [4, 5]) (by kernel_rfl) rfl (fun _ _ _ => trivial) (fun i hi => ?_)
            rcases (by simpa using hi : i = 4 ∨ i = 5) with rfl | rfl
            · refine ⟨_, rfl, .inr ⟨2, 137, _, rfl, rfl, rfl, rfl, ?_⟩⟩
              refine sm_lit ty26 ty32 rfl rfl rfl rfl rfl rfl rfl ?_
              refine m_one_yes (j := 2) (t := 137) 5 (by kernel_rfl) rfl rfl rfl rfl rfl ?_
              refine sm_any rfl (s_makeO (n := 1) (za := (.agg [(.int .i64 0), (.int .i64 0), (.int .i64 0)])) ty26 ty32 rfl rfl rfl rfl rfl rfl (by omega) (by omega) ?_)
              intro r140 hr140 hw140
              refine m_one_yes (j := 2) (t := 137) 6 (by kernel_rfl) rfl rfl rfl rfl rfl ?_
              refine sm_callp rfl rfl rfl (same21_ok [alz] [alz] _ _ _ rfl (AV.view_own_all (AHeap.get_set _ _ _) rfl) (by simp) (by simp)) ?_
              rintro _ rfl
              rw [decide_eq_true rfl]
              refine m_take 7 false rfl rfl (by kernel_rfl) (by kernel_rfl) (by kernel_rfl) (fun _ _ _ _ h => h) (v_pick_t rfl rfl) rfl rfl ?_
              refine m_take 8 false rfl rfl (by kernel_rfl) (by kernel_rfl) (by kernel_rfl) (fun _ _ _ _ h => h) (v_move rfl) rfl rfl ?_
              refine m_split 143 rfl (fun hg143 => ?_) (fun hg143 => ?_)
              · try simp only [decide_eq_true_eq, decide_eq_false_iff_not, Bool.not_eq_true', Bool.not_eq_false', Bool.not_eq_eq_eq_not, Bool.not_true, Bool.not_false, Bool.and_eq_true, Bool.or_eq_true, Bool.or_eq_false_iff, beq_iff_eq, beq_eq_false_iff_ne, ne_eq, Int.not_lt, Int.not_le, Decidable.not_not] at hg143
                refine m_one_yes (j := 8) (t := 143) 9 (by kernel_rfl) rfl rfl rfl rfl rfl ?_
                refine sm_callp rfl rfl rfl (awake21_ok _) ?_
                rintro _ rfl
                refine m_take 10 false rfl rfl (by kernel_rfl) (by kernel_rfl) (by kernel_rfl) (fun _ _ _ _ h => h) (v_pick_t rfl rfl) rfl rfl ?_
                refine m_take 11 false rfl rfl (by kernel_rfl) (by kernel_rfl) (by kernel_rfl) (fun _ _ _ _ h => h) (v_assign rfl) rfl rfl ?_
                refine m_done (by kernel_rfl) ?_
                refine g_next hK35 ?_
                refine g_ret ?_
                refine g_end1 (.inl rfl) Try.results3 (.tmp rfl) [] (ASub.refl _) (by first | exact hs_G | exact hG0 ▸ hs_G | exact AHeap.sub_set (hG0 ▸ hs_G) (by assumption) | exact AHeap.sub_refl _) (fun p hp => by cases hp) ⟨rfl, ?_⟩
                rfl
              · exfalso; (try simp only [decide_eq_true_eq, decide_eq_false_iff_not, Bool.not_eq_true', Bool.not_eq_false', Bool.not_eq_eq_eq_not, Bool.not_true, Bool.not_false, Bool.and_eq_true, Bool.or_eq_true, Bool.or_eq_false_iff, beq_iff_eq, beq_eq_false_iff_ne, ne_eq, Int.not_lt, Int.not_le, Decidable.not_not] at hg143); cases hg143
            · refine ⟨_, rfl, .inr ⟨2, 137, _, rfl, rfl, rfl, rfl, ?_⟩⟩
              refine sm_any rfl (s_makeO (n := 1) (za := (.agg [(.int .i64 0), (.int .i64 0), (.int .i64 0)])) ty26 ty32 rfl rfl rfl rfl rfl rfl (by omega) (by omega) ?_)
              intro r140 hr140 hw140
              refine m_one_yes (j := 2) (t := 137) 4 (by kernel_rfl) rfl rfl rfl rfl rfl ?_
              refine sm_lit ty26 ty32 rfl rfl rfl rfl rfl rfl rfl ?_
              refine m_one_yes (j := 2) (t := 137) 6 (by kernel_rfl) rfl rfl rfl rfl rfl ?_
              refine sm_callp rfl rfl rfl (same21_ok [alz] [alz] _ _ _ rfl (AV.view_own_all (AHeap.get_set _ _ _) rfl) (by simp) (by simp)) ?_
              rintro _ rfl
              rw [decide_eq_true rfl]
              refine m_take 7 false rfl rfl (by kernel_rfl) (by kernel_rfl) (by kernel_rfl) (fun _ _ _ _ h => h) (v_pick_t rfl rfl) rfl rfl ?_
              refine m_take 8 false rfl rfl (by kernel_rfl) (by kernel_rfl) (by kernel_rfl) (fun _ _ _ _ h => h) (v_move rfl) rfl rfl ?_
              refine m_split 143 rfl (fun hg143 => ?_) (fun hg143 => ?_)
              · try simp only [decide_eq_true_eq, decide_eq_false_iff_not, Bool.not_eq_true', Bool.not_eq_false', Bool.not_eq_eq_eq_not, Bool.not_true, Bool.not_false, Bool.and_eq_true, Bool.or_eq_true, Bool.or_eq_false_iff, beq_iff_eq, beq_eq_false_iff_ne, ne_eq, Int.not_lt, Int.not_le, Decidable.not_not] at hg143
                refine m_one_yes (j := 8) (t := 143) 9 (by kernel_rfl) rfl rfl rfl rfl rfl ?_
                refine sm_callp rfl rfl rfl (awake21_ok _) ?_
                rintro _ rfl
                refine m_take 10 false rfl rfl (by kernel_rfl) (by kernel_rfl) (by kernel_rfl) (fun _ _ _ _ h => h) (v_pick_t rfl rfl) rfl rfl ?_
                refine m_take 11 false rfl rfl (by kernel_rfl) (by kernel_rfl) (by kernel_rfl) (fun _ _ _ _ h => h) (v_assign rfl) rfl rfl ?_
                refine m_done (by kernel_rfl) ?_
                refine g_next hK35 ?_
                refine g_ret ?_
                refine g_end1 (.inl rfl) Try.results3 (.tmp rfl) [] (ASub.refl _) (by first | exact hs_G | exact hG0 ▸ hs_G | exact AHeap.sub_set (hG0 ▸ hs_G) (by assumption) | exact AHeap.sub_refl _) (fun p hp => by cases hp) ⟨rfl, ?_⟩
                rfl
              · exfalso; (try simp only [decide_eq_true_eq, decide_eq_false_iff_not, Bool.not_eq_true', Bool.not_eq_false', Bool.not_eq_eq_eq_not, Bool.not_true, Bool.not_false, Bool.and_eq_true, Bool.or_eq_true, Bool.or_eq_false_iff, beq_iff_eq, beq_eq_false_iff_ne, ne_eq, Int.not_lt, Int.not_le, Decidable.not_not] at hg143); cases hg143
          · refine ⟨_, rfl, .inr ⟨2, 137, _, rfl, rfl, rfl, rfl, ?_⟩⟩
            refine sm_any rfl (s_makeO (n := 1) (za := (.agg [(.int .i64 0), (.int .i64 0), (.int .i64 0)])) ty26 ty32 rfl rfl rfl rfl rfl rfl (by omega) (by omega) ?_)
            intro r140 hr140 hw140
            refine m_take_yes (j := 2) (t := 137) 3 true rfl rfl rfl rfl rfl (by kernel_rfl) (by kernel_rfl) (by kernel_rfl) (fun _ _ _ _ h => h) (by first | exact v_loadl_all ty32 rfl rfl rfl rfl rfl | exact v_loadl_part (cs := [_, _, _]) ty32 rfl rfl rfl rfl rfl rfl) rfl rfl ?_
            refine m_one_yes (j := 2) (t := 137) 4 (by kernel_rfl) rfl rfl rfl rfl rfl ?_
            refine sm_lit ty26 ty32 rfl rfl rfl rfl rfl rfl rfl ?_
            refine m_one_yes (j := 2) (t := 137) 6 (by kernel_rfl) rfl rfl rfl rfl rfl ?_
            refine sm_callp rfl rfl rfl (same21_ok [alz] [alz] _ _ _ rfl (AV.view_own_all (AHeap.get_set _ _ _) rfl) (by simp) (by simp)) ?_
            rintro _ rfl
            rw [decide_eq_true rfl]
            refine m_take 7 false rfl rfl (by kernel_rfl) (by kernel_rfl) (by kernel_rfl) (fun _ _ _ _ h => h) (v_pick_t rfl rfl) rfl rfl ?_
            refine m_take 8 false rfl rfl (by kernel_rfl) (by kernel_rfl) (by kernel_rfl) (fun _ _ _ _ h => h) (v_move rfl) rfl rfl ?_
            refine m_split 143 rfl (fun hg143 => ?_) (fun hg143 => ?_)
            · try simp only [decide_eq_true_eq, decide_eq_false_iff_not, Bool.not_eq_true', Bool.not_eq_false', Bool.not_eq_eq_eq_not, Bool.not_true, Bool.not_false, Bool.and_eq_true, Bool.or_eq_true, Bool.or_eq_false_iff, beq_iff_eq, beq_eq_false_iff_ne, ne_eq, Int.not_lt, Int.not_le, Decidable.not_not] at hg143
              refine m_one_yes (j := 8) (t := 143) 9 (by kernel_rfl) rfl rfl rfl rfl rfl ?_
              refine sm_callp rfl rfl rfl (awake21_ok _) ?_
              rintro _ rfl
              refine m_take 10 false rfl rfl (by kernel_rfl) (by kernel_rfl) (by kernel_rfl) (fun _ _ _ _ h => h) (v_pick_t rfl rfl) rfl rfl ?_
              refine m_take 11 false rfl rfl (by kernel_rfl) (by kernel_rfl) (by kernel_rfl) (fun _ _ _ _ h => h) (v_assign rfl) rfl rfl ?_
              refine m_done (by kernel_rfl) ?_
              refine g_next hK35 ?_
              refine g_ret ?_
              refine g_end1 (.inl rfl) Try.results3 (.tmp rfl) [] (ASub.refl _) (by first | exact hs_G | exact hG0 ▸ hs_G | exact AHeap.sub_set (hG0 ▸ hs_G) (by assumption) | exact AHeap.sub_refl _) (fun p hp => by cases hp) ⟨rfl, ?_⟩
              rfl
            · exfalso; (try simp only [decide_eq_true_eq, decide_eq_false_iff_not, Bool.not_eq_true', Bool.not_eq_false', Bool.not_eq_eq_eq_not, Bool.not_true, Bool.not_false, Bool.and_eq_true, Bool.or_eq_true, Bool.or_eq_false_iff, beq_iff_eq, beq_eq_false_iff_ne, ne_eq, Int.not_lt, Int.not_le, Decidable.not_not] at hg143); cases hg143
        · exfalso; (try simp only [decide_eq_true_eq, decide_eq_false_iff_not, Bool.not_eq_true', Bool.not_eq_false', Bool.not_eq_eq_eq_not, Bool.not_true, Bool.not_false, Bool.and_eq_true, Bool.or_eq_true, Bool.or_eq_false_iff, beq_iff_eq, beq_eq_false_iff_ne, ne_eq, Int.not_lt, Int.not_le, Decidable.not_not] at hg137); cases hg137

end Go.Proofs.Ytobigfbgaiglkaa

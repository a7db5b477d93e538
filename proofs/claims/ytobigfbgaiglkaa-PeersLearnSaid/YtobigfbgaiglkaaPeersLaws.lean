import Derived.Test.YtobigfbgaiglkaaPeers
set_option maxHeartbeats 8000000
set_option linter.unusedSimpArgs false
set_option linter.unusedVariables false
set_option maxRecDepth 100000
namespace Go.Proofs.Ytobigfbgaiglkaa
open Go Go.Proofs.Ytobigfbgaiglkaa.AM
theorem awake23_ok (G : AHeap) : PCalls Try.prog 51 [] G (fun r => r = .bool true) := by
  refine LCalls.intro 56 fi51 rfl Try.ntmps51 rfl (fun _ h => h.elim) (fun H hH w0 hw0 => ?_)
  refine g_seq (fun K0 hK0 => ?_)
  refine g_region ?_
  refine g_step rfl (s_val (v_assign rfl) rfl rfl ?_)
  refine g_nil ?_
  refine g_next hK0 ?_
  refine g_seq (fun K1 hK1 => ?_)
  refine g_region ?_
  refine g_step rfl (s_call rfl rfl rfl (peersNew_ok _) (fun _ h => h.elim) ?_)
  rintro n1 r1 effs1 hn1 hdom1 ⟨p, r, hp1, hr1, hpr_p, rfl, rfl⟩ hok1
  have hw_p : w0.heap.size ≤ p := Nat.le_trans hn1 hp1
  have hw_r : w0.heap.size ≤ r := Nat.le_trans hn1 hr1
  have hz_p := hdom1 _ hp1
  have hz_r := hdom1 _ hr1
  have hz0_p := sub_none (AHeap.sub_refl _) hz_p
  have hz0_r := sub_none (AHeap.sub_refl _) hz_r
  generalize hE_G1 : setAll H [(p, .box (.agg [.map r])), (r, bookRow [])] = G1
  have hs_G1 : H.sub G1 := by rw [← hE_G1]; exact sub_set' (sub_set' (AHeap.sub_refl _) hz0_r) hz0_p
  have hq_G1_p : G1 p = some (.box (.agg [.map r])) := by rw [← hE_G1]; exact AHeap.get_set _ _ _
  have hq_G1_r : G1 r = some (bookRow []) := by rw [← hE_G1]; exact (AHeap.get_set_ne _ _ (Ne.symm hpr_p)).trans (AHeap.get_set _ _ _)
  refine g_step rfl (s_val (v_assign rfl) rfl rfl ?_)
  refine g_nil ?_
  refine g_next hK1 ?_
  refine g_seq (fun K2 hK2 => ?_)
  refine g_region ?_
  refine g_step rfl (s_val (v_move rfl) rfl rfl ?_)
  refine g_step rfl (s_val (v_build (vs := [(0, _), (1, _)]) (zs := [(.int .i64 0), (.int .i64 0)]) (cells := [_, _]) ty107 pl107 rfl rfl rfl) rfl rfl ?_)
  refine g_step rfl (s_call rfl rfl rfl (peersLearn_ok p r [] _ hq_G1_p hq_G1_r 5 3 ⟨1, 2⟩) (fun b hb => .inr (by subst hb; exact hw_r)) ?_)
  rintro n2 r2 effs2 hn2 hdom2 ⟨rfl, rfl⟩ hok2
  generalize hE_G2 : setAll G1 [(r, bookRow (learn [] 5 3 ⟨1, 2⟩))] = G2
  have hs_G2 : H.sub G2 := by rw [← hE_G2]; exact sub_set' hs_G1 hz0_r
  have hq_G2_r : G2 r = some (bookRow (learn [] 5 3 ⟨1, 2⟩)) := by rw [← hE_G2]; exact AHeap.get_set _ _ _
  have hq_G2_p : G2 p = some (.box (.agg [.map r])) := by rw [← hE_G2]; exact (AHeap.get_set_ne _ _ hpr_p).trans hq_G1_p
  refine g_step rfl (s_val (v_assign rfl) rfl rfl ?_)
  refine g_nil ?_
  refine g_next hK2 ?_
  refine g_seq (fun K3 hK3 => ?_)
  refine g_region ?_
  refine g_step rfl (s_val (v_move rfl) rfl rfl ?_)
  refine g_step rfl (s_val (v_build (vs := [(0, _), (1, _)]) (zs := [(.int .i64 0), (.int .i64 0)]) (cells := [_, _]) ty107 pl107 rfl rfl rfl) rfl rfl ?_)
  refine g_step rfl (s_call rfl rfl rfl (peersLearn_ok p r (learn [] 5 3 ⟨1, 2⟩) _ hq_G2_p hq_G2_r 5 2 ⟨1, 3⟩) (fun b hb => .inr (by subst hb; exact hw_r)) ?_)
  rintro n3 r3 effs3 hn3 hdom3 ⟨rfl, rfl⟩ hok3
  generalize hE_G3 : setAll G2 [(r, bookRow (learn (learn [] 5 3 ⟨1, 2⟩) 5 2 ⟨1, 3⟩))] = G3
  have hs_G3 : H.sub G3 := by rw [← hE_G3]; exact sub_set' hs_G2 hz0_r
  have hq_G3_r : G3 r = some (bookRow (learn (learn [] 5 3 ⟨1, 2⟩) 5 2 ⟨1, 3⟩)) := by rw [← hE_G3]; exact AHeap.get_set _ _ _
  have hq_G3_p : G3 p = some (.box (.agg [.map r])) := by rw [← hE_G3]; exact (AHeap.get_set_ne _ _ hpr_p).trans hq_G2_p
  refine g_step rfl (s_val (v_assign rfl) rfl rfl ?_)
  refine g_nil ?_
  refine g_next hK3 ?_
  refine g_seq (fun K4 hK4 => ?_)
  refine g_region ?_
  refine g_step rfl (s_val (v_move rfl) rfl rfl ?_)
  refine g_step rfl (s_val (v_build (vs := [(0, _), (1, _)]) (zs := [(.int .i64 0), (.int .i64 0)]) (cells := [_, _]) ty107 pl107 rfl rfl rfl) rfl rfl ?_)
  refine g_step rfl (s_callp rfl rfl rfl (peersChoose_ok p r (learn (learn [] 5 3 ⟨1, 2⟩) 5 2 ⟨1, 3⟩) _ hq_G3_p hq_G3_r ⟨2, 3⟩ 5) ?_)
  rintro _ rfl
  refine g_step rfl (s_val (v_move rfl) rfl rfl ?_)
  refine g_step rfl (s_val (v_extract rfl rfl) rfl rfl ?_)
  refine g_step rfl (s_val (v_extract rfl rfl) rfl rfl ?_)
  refine g_step rfl (s_val (v_assign rfl) rfl rfl ?_)
  refine g_step rfl (s_val (v_assign rfl) rfl rfl ?_)
  refine g_nil ?_
  refine g_next hK4 ?_
  refine g_seq (fun K5 hK5 => ?_)
  refine g_region ?_
  refine g_step rfl (s_val (v_move rfl) rfl rfl ?_)
  refine g_step rfl (s_val (v_build (vs := [(0, _), (1, _)]) (zs := [(.int .i64 0), (.int .i64 0)]) (cells := [_, _]) ty107 pl107 rfl rfl rfl) rfl rfl ?_)
  refine g_step rfl (s_callp rfl rfl rfl (peersChoose_ok p r (learn (learn [] 5 3 ⟨1, 2⟩) 5 2 ⟨1, 3⟩) _ hq_G3_p hq_G3_r ⟨3, 3⟩ 5) ?_)
  rintro _ rfl
  refine g_step rfl (s_val (v_move rfl) rfl rfl ?_)
  refine g_step rfl (s_val (v_extract rfl rfl) rfl rfl ?_)
  refine g_step rfl (s_val (v_extract rfl rfl) rfl rfl ?_)
  refine g_step rfl (s_val (v_assign rfl) rfl rfl ?_)
  refine g_step rfl (s_val (v_assign rfl) rfl rfl ?_)
  refine g_nil ?_
  refine g_next hK5 ?_
  first | refine g_keep [1, 2, 3, 4, 5, 7] [] [] (keep_cons rfl (keep_cons rfl (keep_cons rfl (keep_cons rfl (keep_cons rfl (keep_cons rfl keep_nil)))))) lkeep_nil keep_nil rfl ?_ | refine g_keep [1, 2, 3, 4, 5, 7] [] [] rfl rfl rfl rfl ?_
  refine g_seq (fun K6 hK6 => ?_)
  refine g_region ?_
  refine g_step rfl (s_val (v_move rfl) rfl rfl ?_)
  refine g_step rfl (s_val (v_build (vs := [(0, _), (1, _)]) (zs := [(.int .i64 0), (.int .i64 0)]) (cells := [_, _]) ty107 pl107 rfl rfl rfl) rfl rfl ?_)
  refine g_step rfl (s_callp rfl rfl rfl (peersChoose_ok p r (learn (learn [] 5 3 ⟨1, 2⟩) 5 2 ⟨1, 3⟩) _ hq_G3_p hq_G3_r ⟨3, 3⟩ 6) ?_)
  rintro _ rfl
  refine g_step rfl (s_val (v_move rfl) rfl rfl ?_)
  refine g_step rfl (s_val (v_extract rfl rfl) rfl rfl ?_)
  refine g_step rfl (s_val (v_extract rfl rfl) rfl rfl ?_)
  refine g_step rfl (s_val (v_assign rfl) rfl rfl ?_)
  refine g_step rfl (s_val (v_assign rfl) rfl rfl ?_)
  refine g_nil ?_
  refine g_next hK6 ?_
  refine g_seq (fun K7 hK7 => ?_)
  refine g_region ?_
  refine g_step rfl (s_val (v_move rfl) rfl rfl ?_)
  refine g_step rfl (s_val (v_move rfl) rfl rfl ?_)
  refine g_split 36 rfl (fun hg36 => ?_) (fun hg36 => ?_)
  · try simp only [decide_eq_true_eq, decide_eq_false_iff_not, Bool.not_eq_true', Bool.not_eq_false', Bool.not_eq_eq_eq_not, Bool.not_true, Bool.not_false, Bool.and_eq_true, Bool.or_eq_true, Bool.or_eq_false_iff, beq_iff_eq, beq_eq_false_iff_ne, ne_eq, Int.not_lt, Int.not_le, Decidable.not_not] at hg36
    refine g_step_yes (j := 1) (t := 36) rfl rfl rfl rfl (s_val (v_move rfl) rfl rfl ?_)
    refine g_step_yes (j := 1) (t := 36) rfl rfl rfl rfl (s_val (v_not rfl) rfl rfl ?_)
    refine g_step rfl (s_val (v_pick_t rfl rfl) rfl rfl ?_)
    refine g_step rfl (s_val (v_move rfl) rfl rfl ?_)
    refine g_split 40 rfl (fun hg40 => ?_) (fun hg40 => ?_)
    · try simp only [decide_eq_true_eq, decide_eq_false_iff_not, Bool.not_eq_true', Bool.not_eq_false', Bool.not_eq_eq_eq_not, Bool.not_true, Bool.not_false, Bool.and_eq_true, Bool.or_eq_true, Bool.or_eq_false_iff, beq_iff_eq, beq_eq_false_iff_ne, ne_eq, Int.not_lt, Int.not_le, Decidable.not_not] at hg40
      refine g_step_yes (j := 5) (t := 40) rfl rfl rfl rfl (s_val (v_move rfl) rfl rfl ?_)
      refine g_step_yes (j := 5) (t := 40) rfl rfl rfl rfl (s_val (v_eql rfl rfl) rfl rfl ?_)
      refine g_step rfl (s_val (v_pick_t rfl rfl) rfl rfl ?_)
      refine g_step rfl (s_val (v_move rfl) rfl rfl ?_)
      refine g_split 44 rfl (fun hg44 => ?_) (fun hg44 => ?_)
      · try simp only [decide_eq_true_eq, decide_eq_false_iff_not, Bool.not_eq_true', Bool.not_eq_false', Bool.not_eq_eq_eq_not, Bool.not_true, Bool.not_false, Bool.and_eq_true, Bool.or_eq_true, Bool.or_eq_false_iff, beq_iff_eq, beq_eq_false_iff_ne, ne_eq, Int.not_lt, Int.not_le, Decidable.not_not] at hg44
        refine g_step_yes (j := 9) (t := 44) rfl rfl rfl rfl (s_val (v_move rfl) rfl rfl ?_)
        refine g_step_yes (j := 9) (t := 44) rfl rfl rfl rfl (s_val (v_eql rfl rfl) rfl rfl ?_)
        refine g_step rfl (s_val (v_pick_t rfl rfl) rfl rfl ?_)
        refine g_step rfl (s_val (v_move rfl) rfl rfl ?_)
        refine g_split 48 rfl (fun hg48 => ?_) (fun hg48 => ?_)
        · try simp only [decide_eq_true_eq, decide_eq_false_iff_not, Bool.not_eq_true', Bool.not_eq_false', Bool.not_eq_eq_eq_not, Bool.not_true, Bool.not_false, Bool.and_eq_true, Bool.or_eq_true, Bool.or_eq_false_iff, beq_iff_eq, beq_eq_false_iff_ne, ne_eq, Int.not_lt, Int.not_le, Decidable.not_not] at hg48
          refine g_step_yes (j := 13) (t := 48) rfl rfl rfl rfl (s_val (v_move rfl) rfl rfl ?_)
          refine g_step_yes (j := 13) (t := 48) rfl rfl rfl rfl (s_val (v_eql rfl rfl) rfl rfl ?_)
          refine g_step rfl (s_val (v_pick_t rfl rfl) rfl rfl ?_)
          refine g_step rfl (s_val (v_move rfl) rfl rfl ?_)
          refine g_split 52 rfl (fun hg52 => ?_) (fun hg52 => ?_)
          · try simp only [decide_eq_true_eq, decide_eq_false_iff_not, Bool.not_eq_true', Bool.not_eq_false', Bool.not_eq_eq_eq_not, Bool.not_true, Bool.not_false, Bool.and_eq_true, Bool.or_eq_true, Bool.or_eq_false_iff, beq_iff_eq, beq_eq_false_iff_ne, ne_eq, Int.not_lt, Int.not_le, Decidable.not_not] at hg52
            refine g_step_yes (j := 17) (t := 52) rfl rfl rfl rfl (s_val (v_move rfl) rfl rfl ?_)
            refine g_step_yes (j := 17) (t := 52) rfl rfl rfl rfl (s_val (v_eql rfl rfl) rfl rfl ?_)
            refine g_step rfl (s_val (v_pick_t rfl rfl) rfl rfl ?_)
            refine g_step rfl (s_val (v_assign rfl) rfl rfl ?_)
            refine g_nil ?_
            refine g_next hK7 ?_
            first | refine g_keep [0] [] [] (keep_cons rfl keep_nil) lkeep_nil keep_nil rfl ?_ | refine g_keep [0] [] [] rfl rfl rfl rfl ?_
            refine g_ret ?_
            refine g_end1 (.inl rfl) Try.results51 (.tmp rfl) [] (ASub.refl _) hs_G3 (fun p hp => by cases hp) ⟨rfl, ?_⟩
            rfl
          · exfalso; (try simp only [decide_eq_true_eq, decide_eq_false_iff_not, Bool.not_eq_true', Bool.not_eq_false', Bool.not_eq_eq_eq_not, Bool.not_true, Bool.not_false, Bool.and_eq_true, Bool.or_eq_true, Bool.or_eq_false_iff, beq_iff_eq, beq_eq_false_iff_ne, ne_eq, Int.not_lt, Int.not_le, Decidable.not_not] at hg52); revert hg52; decide
        · exfalso; (try simp only [decide_eq_true_eq, decide_eq_false_iff_not, Bool.not_eq_true', Bool.not_eq_false', Bool.not_eq_eq_eq_not, Bool.not_true, Bool.not_false, Bool.and_eq_true, Bool.or_eq_true, Bool.or_eq_false_iff, beq_iff_eq, beq_eq_false_iff_ne, ne_eq, Int.not_lt, Int.not_le, Decidable.not_not] at hg48); revert hg48; decide
      · exfalso; (try simp only [decide_eq_true_eq, decide_eq_false_iff_not, Bool.not_eq_true', Bool.not_eq_false', Bool.not_eq_eq_eq_not, Bool.not_true, Bool.not_false, Bool.and_eq_true, Bool.or_eq_true, Bool.or_eq_false_iff, beq_iff_eq, beq_eq_false_iff_ne, ne_eq, Int.not_lt, Int.not_le, Decidable.not_not] at hg44); revert hg44; decide
    · exfalso; (try simp only [decide_eq_true_eq, decide_eq_false_iff_not, Bool.not_eq_true', Bool.not_eq_false', Bool.not_eq_eq_eq_not, Bool.not_true, Bool.not_false, Bool.and_eq_true, Bool.or_eq_true, Bool.or_eq_false_iff, beq_iff_eq, beq_eq_false_iff_ne, ne_eq, Int.not_lt, Int.not_le, Decidable.not_not] at hg40); revert hg40; decide
  · exfalso; (try simp only [decide_eq_true_eq, decide_eq_false_iff_not, Bool.not_eq_true', Bool.not_eq_false', Bool.not_eq_eq_eq_not, Bool.not_true, Bool.not_false, Bool.and_eq_true, Bool.or_eq_true, Bool.or_eq_false_iff, beq_iff_eq, beq_eq_false_iff_ne, ne_eq, Int.not_lt, Int.not_le, Decidable.not_not] at hg36); revert hg36; decide

end Go.Proofs.Ytobigfbgaiglkaa

import Derived.Test.YtmnngdbcfdnefaaPeers
set_option linter.unusedSimpArgs false
set_option linter.unusedVariables false
set_option maxRecDepth 100000
namespace Go.Proofs.Ytmnngdbcfdnefaa
open Go Go.Proofs.Ytmnngdbcfdnefaa.AM
theorem awake23_ok (G : AHeap) : PCalls Try.prog 25 [] G (fun r => r = .bool true) := by
  refine LCalls.intro 56 fi25 rfl Try.ntmps25 rfl (fun _ h => h.elim) (fun H hH w0 hw0 => ?_)
  refine g_seq (fun K0 hK0 => ?_)
  refine g_region ?_
  refine g_step rfl (s_val (v_assign rfl) rfl rfl ?_)
  refine g_nil ?_
  refine g_next hK0 ?_
  refine g_seq (fun K1 hK1 => ?_)
  refine g_region ?_
  refine g_step rfl (s_call rfl rfl rfl (peersNew_ok _) (fun _ h => h.elim) ?_)
  rintro n1 r1 effs1 hn1 hdom1 ⟨p, r, hp1, hr1, hpr_p, rfl, rfl⟩ hok1
  have hw_p : w0.heap.size ≤ p := Nat.le_trans hn1 hp1
  have hw_r : w0.heap.size ≤ r := Nat.le_trans hn1 hr1
  have hz_p := hdom1 _ hp1
  have hz_r := hdom1 _ hr1
  have hz0_p := sub_none (AHeap.sub_refl _) hz_p
  have hz0_r := sub_none (AHeap.sub_refl _) hz_r
  generalize hE_G1 : setAll H [(p, .box (.agg [.map r])), (r, bookRow [])] = G1
  have hs_G1 : H.sub G1 := by rw [← hE_G1]; exact sub_set' (sub_set' (AHeap.sub_refl _) hz0_r) hz0_p
  have hq_G1_p : G1 p = some (.box (.agg [.map r])) := by rw [← hE_G1]; exact AHeap.get_set _ _ _
  have hq_G1_r : G1 r = some (bookRow []) := by rw [← hE_G1]; exact (AHeap.get_set_ne _ _ (Ne.symm hpr_p)).trans (AHeap.get_set _ _ _)
  refine g_step rfl (s_val (v_assign rfl) rfl rfl ?_)
  refine g_nil ?_
  refine g_next hK1 ?_
  refine g_seq (fun K2 hK2 => ?_)
  refine g_region ?_
  refine g_step rfl (s_val (v_move rfl) rfl rfl ?_)
  refine g_step rfl (s_val (v_build (vs := [(0, _), (1, _)]) (zs := [(.int .i64 0), (.int .i64 0)]) (cells := [_, _]) ty37 pl37 rfl rfl rfl) rfl rfl ?_)
  refine g_step rfl (s_call rfl rfl rfl (peersLearn_ok p r [] _ hq_G1_p hq_G1_r 5 3 ⟨1, 2⟩) (fun b hb => .inr (by subst hb; exact hw_r)) ?_)
  rintro n2 r2 effs2 hn2 hdom2 ⟨rfl, rfl⟩ hok2
  generalize hE_G2 : setAll G1 [(r, bookRow (learn [] 5 3 ⟨1, 2⟩))] = G2
  have hs_G2 : H.sub G2 := by rw [← hE_G2]; exact sub_set' hs_G1 hz0_r
  have hq_G2_r : G2 r = some (bookRow (learn [] 5 3 ⟨1, 2⟩)) := by rw [← hE_G2]; exact AHeap.get_set _ _ _
  have hq_G2_p : G2 p = some (.box (.agg [.map r])) := by rw [← hE_G2]; exact (AHeap.get_set_ne _ _ hpr_p).trans hq_G1_p
  refine g_step rfl (s_val (v_assign rfl) rfl rfl ?_)
  refine g_nil ?_
  refine g_next hK2 ?_
  refine g_seq (fun K3 hK3 => ?_)
  refine g_region ?_
  refine g_step rfl (s_val (v_move rfl) rfl rfl ?_)
  refine g_step rfl (s_val (v_build (vs := [(0, _), (1, _)]) (zs := [(.int .i64 0), (.int .i64 0)]) (cells := [_, _]) ty37 pl37 rfl rfl rfl) rfl rfl ?_)
  refine g_step rfl (s_call rfl rfl rfl (peersLearn_ok p r (learn [] 5 3 ⟨1, 2⟩) _ hq_G2_p hq_G2_r 5 2 ⟨1, 3⟩) (fun b hb => .inr (by subst hb; exact hw_r)) ?_)
  rintro n3 r3 effs3 hn3 hdom3 ⟨rfl, rfl⟩ hok3
  generalize hE_G3 : setAll G2 [(r, bookRow (learn (learn [] 5 3 ⟨1, 2⟩) 5 2 ⟨1, 3⟩))] = G3
  have hs_G3 : H.sub G3 := by rw [← hE_G3]; exact sub_set' hs_G2 hz0_r
  have hq_G3_r : G3 r = some (bookRow (learn (learn [] 5 3 ⟨1, 2⟩) 5 2 ⟨1, 3⟩)) := by rw [← hE_G3]; exact AHeap.get_set _ _ _
  have hq_G3_p : G3 p = some (.box (.agg [.map r])) := by rw [← hE_G3]; exact (AHeap.get_set_ne _ _ hpr_p).trans hq_G2_p
  refine g_step rfl (s_val (v_assign rfl) rfl rfl ?_)
  refine g_nil ?_
  refine g_next hK3 ?_
  refine g_seq (fun K4 hK4 => ?_)
  refine g_region ?_
  refine g_step rfl (s_val (v_move rfl) rfl rfl ?_)
  refine g_step rfl (s_val (v_build (vs := [(0, _), (1, _)]) (zs := [(.int .i64 0), (.int .i64 0)]) (cells := [_, _]) ty37 pl37 rfl rfl rfl) rfl rfl ?_)
  refine g_step rfl (s_callp rfl rfl rfl (peersChoose_ok p r (learn (learn [] 5 3 ⟨1, 2⟩) 5 2 ⟨1, 3⟩) _ hq_G3_p hq_G3_r ⟨2, 3⟩ 5) ?_)
  rintro _ rfl
  refine g_step rfl (s_val (v_move rfl) rfl rfl ?_)
  refine g_step rfl (s_val (v_extract rfl rfl) rfl rfl ?_)
  refine g_step rfl (s_val (v_extract rfl rfl) rfl rfl ?_)
  refine g_step rfl (s_val (v_assign rfl) rfl rfl ?_)
  refine g_step rfl (s_val (v_assign rfl) rfl rfl ?_)
  refine g_nil ?_
  refine g_next hK4 ?_
  refine g_seq (fun K5 hK5 => ?_)
  refine g_region ?_
  refine g_step rfl (s_val (v_move rfl) rfl rfl ?_)
  refine g_step rfl (s_val (v_build (vs := [(0, _), (1, _)]) (zs := [(.int .i64 0), (.int .i64 0)]) (cells := [_, _]) ty37 pl37 rfl rfl rfl) rfl rfl ?_)
  refine g_step rfl (s_callp rfl rfl rfl (peersChoose_ok p r (learn (learn [] 5 3 ⟨1, 2⟩) 5 2 ⟨1, 3⟩) _ hq_G3_p hq_G3_r ⟨3, 3⟩ 5) ?_)
  rintro _ rfl
  refine g_step rfl (s_val (v_move rfl) rfl rfl ?_)
  refine g_step rfl (s_val (v_extract rfl rfl) rfl rfl ?_)
  refine g_step rfl (s_val (v_extract rfl rfl) rfl rfl ?_)
  refine g_step rfl (s_val (v_assign rfl) rfl rfl ?_)
  refine g_step rfl (s_val (v_assign rfl) rfl rfl ?_)
  refine g_nil ?_
  refine g_next hK5 ?_
  refine g_seq (fun K6 hK6 => ?_)
  refine g_region ?_
  refine g_step rfl (s_val (v_move rfl) rfl rfl ?_)
  refine g_step rfl (s_val (v_build (vs := [(0, _), (1, _)]) (zs := [(.int .i64 0), (.int .i64 0)]) (cells := [_, _]) ty37 pl37 rfl rfl rfl) rfl rfl ?_)
  refine g_step rfl (s_callp rfl rfl rfl (peersChoose_ok p r (learn (learn [] 5 3 ⟨1, 2⟩) 5 2 ⟨1, 3⟩) _ hq_G3_p hq_G3_r ⟨3, 3⟩ 6) ?_)
  rintro _ rfl
  refine g_step rfl (s_val (v_move rfl) rfl rfl ?_)
  refine g_step rfl (s_val (v_extract rfl rfl) rfl rfl ?_)
  refine g_step rfl (s_val (v_extract rfl rfl) rfl rfl ?_)
  refine g_step rfl (s_val (v_assign rfl) rfl rfl ?_)
  refine g_step rfl (s_val (v_assign rfl) rfl rfl ?_)
  refine g_nil ?_
  refine g_next hK6 ?_
  refine g_seq (fun K7 hK7 => ?_)
  refine g_region ?_
  refine g_step rfl (s_val (v_move rfl) rfl rfl ?_)
  refine g_step rfl (s_val (v_move rfl) rfl rfl ?_)
  refine g_split 36 rfl (fun hg36 => ?_) (fun hg36 => ?_)
  · try simp only [decide_eq_true_eq, decide_eq_false_iff_not, Bool.not_eq_true', Bool.not_eq_false', Bool.not_eq_eq_eq_not, Bool.not_true, Bool.not_false, Bool.and_eq_true, Bool.or_eq_true, Bool.or_eq_false_iff, beq_iff_eq, beq_eq_false_iff_ne, ne_eq, Int.not_lt, Int.not_le, Decidable.not_not] at hg36
    refine g_step_yes (j := 1) (t := 36) rfl rfl rfl rfl (s_val (v_move rfl) rfl rfl ?_)
    refine g_step_yes (j := 1) (t := 36) rfl rfl rfl rfl (s_val (v_not rfl) rfl rfl ?_)
    refine g_step rfl (s_val (v_pick_t rfl rfl) rfl rfl ?_)
    refine g_step rfl (s_val (v_move rfl) rfl rfl ?_)
    refine g_split 40 rfl (fun hg40 => ?_) (fun hg40 => ?_)
    · try simp only [decide_eq_true_eq, decide_eq_false_iff_not, Bool.not_eq_true', Bool.not_eq_false', Bool.not_eq_eq_eq_not, Bool.not_true, Bool.not_false, Bool.and_eq_true, Bool.or_eq_true, Bool.or_eq_false_iff, beq_iff_eq, beq_eq_false_iff_ne, ne_eq, Int.not_lt, Int.not_le, Decidable.not_not] at hg40
      refine g_step_yes (j := 5) (t := 40) rfl rfl rfl rfl (s_val (v_move rfl) rfl rfl ?_)
      refine g_step_yes (j := 5) (t := 40) rfl rfl rfl rfl (s_val (v_eql rfl rfl) rfl rfl ?_)
      refine g_step rfl (s_val (v_pick_t rfl rfl) rfl rfl ?_)
      refine g_step rfl (s_val (v_move rfl) rfl rfl ?_)
      refine g_split 44 rfl (fun hg44 => ?_) (fun hg44 => ?_)
      · try simp only [decide_eq_true_eq, decide_eq_false_iff_not, Bool.not_eq_true', Bool.not_eq_false', Bool.not_eq_eq_eq_not, Bool.not_true, Bool.not_false, Bool.and_eq_true, Bool.or_eq_true, Bool.or_eq_false_iff, beq_iff_eq, beq_eq_false_iff_ne, ne_eq, Int.not_lt, Int.not_le, Decidable.not_not] at hg44
        refine g_step_yes (j := 9) (t := 44) rfl rfl rfl rfl (s_val (v_move rfl) rfl rfl ?_)
        refine g_step_yes (j := 9) (t := 44) rfl rfl rfl rfl (s_val (v_eql rfl rfl) rfl rfl ?_)
        refine g_step rfl (s_val (v_pick_t rfl rfl) rfl rfl ?_)
        refine g_step rfl (s_val (v_move rfl) rfl rfl ?_)
        refine g_split 48 rfl (fun hg48 => ?_) (fun hg48 => ?_)
        · try simp only [decide_eq_true_eq, decide_eq_false_iff_not, Bool.not_eq_true', Bool.not_eq_false', Bool.not_eq_eq_eq_not, Bool.not_true, Bool.not_false, Bool.and_eq_true, Bool.or_eq_true, Bool.or_eq_false_iff, beq_iff_eq, beq_eq_false_iff_ne, ne_eq, Int.not_lt, Int.not_le, Decidable.not_not] at hg48
          refine g_step_yes (j := 13) (t := 48) rfl rfl rfl rfl (s_val (v_move rfl) rfl rfl ?_)
          refine g_step_yes (j := 13) (t := 48) rfl rfl rfl rfl (s_val (v_eql rfl rfl) rfl rfl ?_)
          refine g_step rfl (s_val (v_pick_t rfl rfl) rfl rfl ?_)
          refine g_step rfl (s_val (v_move rfl) rfl rfl ?_)
          refine g_split 52 rfl (fun hg52 => ?_) (fun hg52 => ?_)
          · try simp only [decide_eq_true_eq, decide_eq_false_iff_not, Bool.not_eq_true', Bool.not_eq_false', Bool.not_eq_eq_eq_not, Bool.not_true, Bool.not_false, Bool.and_eq_true, Bool.or_eq_true, Bool.or_eq_false_iff, beq_iff_eq, beq_eq_false_iff_ne, ne_eq, Int.not_lt, Int.not_le, Decidable.not_not] at hg52
            refine g_step_yes (j := 17) (t := 52) rfl rfl rfl rfl (s_val (v_move rfl) rfl rfl ?_)
            refine g_step_yes (j := 17) (t := 52) rfl rfl rfl rfl (s_val (v_eql rfl rfl) rfl rfl ?_)
            refine g_step rfl (s_val (v_pick_t rfl rfl) rfl rfl ?_)
            refine g_step rfl (s_val (v_assign rfl) rfl rfl ?_)
            refine g_nil ?_
            refine g_next hK7 ?_
            refine g_ret ?_
            refine g_end1 (.inl rfl) Try.results25 (.tmp rfl) [] (ASub.refl _) hs_G3 (fun p hp => by cases hp) ⟨rfl, ?_⟩
            rfl
          · exfalso; (try simp only [decide_eq_true_eq, decide_eq_false_iff_not, Bool.not_eq_true', Bool.not_eq_false', Bool.not_eq_eq_eq_not, Bool.not_true, Bool.not_false, Bool.and_eq_true, Bool.or_eq_true, Bool.or_eq_false_iff, beq_iff_eq, beq_eq_false_iff_ne, ne_eq, Int.not_lt, Int.not_le, Decidable.not_not] at hg52); revert hg52; decide
        · exfalso; (try simp only [decide_eq_true_eq, decide_eq_false_iff_not, Bool.not_eq_true', Bool.not_eq_false', Bool.not_eq_eq_eq_not, Bool.not_true, Bool.not_false, Bool.and_eq_true, Bool.or_eq_true, Bool.or_eq_false_iff, beq_iff_eq, beq_eq_false_iff_ne, ne_eq, Int.not_lt, Int.not_le, Decidable.not_not] at hg48); revert hg48; decide
      · exfalso; (try simp only [decide_eq_true_eq, decide_eq_false_iff_not, Bool.not_eq_true', Bool.not_eq_false', Bool.not_eq_eq_eq_not, Bool.not_true, Bool.not_false, Bool.and_eq_true, Bool.or_eq_true, Bool.or_eq_false_iff, beq_iff_eq, beq_eq_false_iff_ne, ne_eq, Int.not_lt, Int.not_le, Decidable.not_not] at hg44); revert hg44; decide
    · exfalso; (try simp only [decide_eq_true_eq, decide_eq_false_iff_not, Bool.not_eq_true', Bool.not_eq_false', Bool.not_eq_eq_eq_not, Bool.not_true, Bool.not_false, Bool.and_eq_true, Bool.or_eq_true, Bool.or_eq_false_iff, beq_iff_eq, beq_eq_false_iff_ne, ne_eq, Int.not_lt, Int.not_le, Decidable.not_not] at hg40); revert hg40; decide
  · exfalso; (try simp only [decide_eq_true_eq, decide_eq_false_iff_not, Bool.not_eq_true', Bool.not_eq_false', Bool.not_eq_eq_eq_not, Bool.not_true, Bool.not_false, Bool.and_eq_true, Bool.or_eq_true, Bool.or_eq_false_iff, beq_iff_eq, beq_eq_false_iff_ne, ne_eq, Int.not_lt, Int.not_le, Decidable.not_not] at hg36); revert hg36; decide

theorem peersChooseLaw_ok (l : List News) (own : Sp) (id : Int) (G : AHeap) : PCalls Try.prog 6 [.imm (l.map encN), encSp own, .int .i64 id] G (fun r => r = .bool true) := by
  refine LCalls.intro 129 fi6 rfl Try.ntmps6 rfl (fun _ h => h.elim) (fun H hH w0 hw0 => ?_)
  refine g_seq (fun K0 hK0 => ?_)
  refine g_region ?_
  refine g_step rfl (s_box rfl rfl rfl rfl ?_)
  refine g_step rfl (s_val (v_assign rfl) rfl rfl ?_)
  refine g_nil ?_
  refine g_next hK0 ?_
  refine g_seq (fun K1 hK1 => ?_)
  refine g_seq (fun K2 hK2 => ?_)
  refine g_region ?_
  refine g_step rfl (s_val (v_move rfl) rfl rfl ?_)
  refine g_step rfl (s_val (v_len ty35 rfl (by first | rfl | assumption) (by first | exact List.length_map .. | rfl)) rfl rfl ?_)
  refine g_step rfl (s_val (v_gtr rfl rfl) rfl rfl ?_)
  refine g_nil ?_
  refine g_next hK2 ?_
  refine g_cond rfl (fun hc16 => ?_) (fun hc16 => ?_)
  · try simp only [decide_eq_true_eq, decide_eq_false_iff_not, Bool.not_eq_true', Bool.not_eq_false', Bool.not_eq_eq_eq_not, Bool.not_true, Bool.not_false, Bool.and_eq_true, Bool.or_eq_true, Bool.or_eq_false_iff, beq_iff_eq, beq_eq_false_iff_ne, ne_eq, Int.not_lt, Int.not_le, Decidable.not_not] at hc16
    refine g_seq (fun K3 hK3 => ?_)
    refine g_region ?_
    refine g_step rfl (s_callp rfl rfl rfl (awake23_ok _) ?_)
    rintro _ rfl
    refine g_step rfl (s_val (v_assign rfl) rfl rfl ?_)
    refine g_nil ?_
    refine g_next hK3 ?_
    refine g_ret ?_
    refine g_then_ret ?_
    refine g_end1 (.inl rfl) Try.results6 (.tmp rfl) [] (ASub.refl _) (AHeap.sub_refl _) (fun p hp => by cases hp) ⟨rfl, ?_⟩
    rfl
  · try simp only [decide_eq_true_eq, decide_eq_false_iff_not, Bool.not_eq_true', Bool.not_eq_false', Bool.not_eq_eq_eq_not, Bool.not_true, Bool.not_false, Bool.and_eq_true, Bool.or_eq_true, Bool.or_eq_false_iff, beq_iff_eq, beq_eq_false_iff_ne, ne_eq, Int.not_lt, Int.not_le, Decidable.not_not] at hc16
    refine g_skip ?_
    refine g_next hK1 ?_
    refine g_seq (fun K4 hK4 => ?_)
    refine g_region ?_
    refine g_step rfl (s_call rfl rfl rfl (peersNew_ok _) (fun _ h => h.elim) ?_)
    rintro n1 r1 effs1 hn1 hdom1 ⟨p, r, hp1, hr1, hpr_p, rfl, rfl⟩ hok1
    have hw_p : w0.heap.size ≤ p := Nat.le_trans hn1 hp1
    have hw_r : w0.heap.size ≤ r := Nat.le_trans hn1 hr1
    have hz_p := hdom1 _ hp1
    have hz_r := hdom1 _ hr1
    have hz0_p := sub_none (AHeap.sub_refl _) hz_p
    have hz0_r := sub_none (AHeap.sub_refl _) hz_r
    generalize hE_G1 : setAll H [(p, .box (.agg [.map r])), (r, bookRow [])] = G1
    have hs_G1 : H.sub G1 := by rw [← hE_G1]; exact sub_set' (sub_set' (AHeap.sub_refl _) hz0_r) hz0_p
    have hq_G1_p : G1 p = some (.box (.agg [.map r])) := by rw [← hE_G1]; exact AHeap.get_set _ _ _
    have hq_G1_r : G1 r = some (bookRow []) := by rw [← hE_G1]; exact (AHeap.get_set_ne _ _ (Ne.symm hpr_p)).trans (AHeap.get_set _ _ _)
    refine g_step rfl (s_val (v_assign rfl) rfl rfl ?_)
    refine g_nil ?_
    refine g_next hK4 ?_
    refine g_seq (fun K5 hK5 => ?_)
    refine g_seq (fun K6 hK6 => ?_)
    refine g_region ?_
    refine g_step rfl (s_val (v_assign rfl) rfl rfl ?_)
    refine g_nil ?_
    refine g_next hK6 ?_
    refine g_block ?_
    refine g_keep [0, 2, 7, 8] [4] [4] rfl rfl rfl rfl ?_
    refine g_loop (fun n env L B G => ∃ (k : Nat), k ≤ l.length ∧ n = l.length - k ∧ env = [(0, .imm (l.map encN)), (2, .int .i64 id), (7, .box p 0), (8, .int .i64 (k : Int))] ∧ L = [(4, 4, 0)] ∧ B = [(4, encSp own)] ∧ G p = some (.box (.agg [.map r])) ∧ G r = some (bookRow (bookOf (l.take k))) ∧ H.sub G) l.length ⟨0, by omega, rfl, rfl, rfl, rfl, hq_G1_p, hq_G1_r, hs_G1⟩ (fun n env L B G hI => ?_)
    obtain ⟨k, hk, rfl, rfl, rfl, rfl, hq_G_p, hq_G_r, hs_G⟩ := hI
    refine g_seq (fun K7 hK7 => ?_)
    refine g_seq (fun K8 hK8 => ?_)
    refine g_region ?_
    refine g_step rfl (s_val (v_move rfl) rfl rfl ?_)
    refine g_step rfl (s_val (v_move rfl) rfl rfl ?_)
    refine g_step rfl (s_val (v_len ty35 rfl (by first | rfl | assumption) (by first | exact List.length_map .. | rfl)) rfl rfl ?_)
    refine g_step rfl (s_val (v_lss rfl rfl) rfl rfl ?_)
    refine g_nil ?_
    refine g_next hK8 ?_
    refine g_cond rfl (fun hc22 => ?_) (fun hc22 => ?_)
    · try simp only [decide_eq_true_eq, decide_eq_false_iff_not, Bool.not_eq_true', Bool.not_eq_false', Bool.not_eq_eq_eq_not, Bool.not_true, Bool.not_false, Bool.and_eq_true, Bool.or_eq_true, Bool.or_eq_false_iff, beq_iff_eq, beq_eq_false_iff_ne, ne_eq, Int.not_lt, Int.not_le, Decidable.not_not] at hc22
      obtain ⟨x, hx⟩ := get_some (l := l) (k := k) (by omega)
      refine g_skip ?_
      refine g_next hK7 ?_
      refine g_seq (fun K9 hK9 => ?_)
      refine g_block ?_
      refine g_draw (n := 17) (fun j => !([16] : List Nat).contains j) rfl rfl ?_
      refine m_take 0 false rfl rfl (by kernel_rfl) (by kernel_rfl) (by kernel_rfl) (fun _ _ _ _ h => h) (v_move rfl) rfl rfl ?_
      refine m_take 1 false rfl rfl (by kernel_rfl) (by kernel_rfl) (by kernel_rfl) (fun _ _ _ _ h => h) (v_move rfl) rfl rfl ?_
      refine m_take 2 false rfl rfl (by kernel_rfl) (by kernel_rfl) (by kernel_rfl) (fun _ _ _ _ h => h) (v_move rfl) rfl rfl ?_
      refine m_take 3 false rfl rfl (by kernel_rfl) (by kernel_rfl) (by kernel_rfl) (fun _ _ _ _ h => h) (v_indexAddr ty35 ty42 rfl rfl (by first | rfl | assumption) (by first | rfl | exact (rfl : (0 : Int) = ((0 : Nat) : Int)) | exact (Int.toNat_of_nonneg (by omega)).symm) (by first | assumption | exact map_get (by assumption) | rfl) rfl) rfl rfl ?_
      refine m_take 4 false rfl rfl (by kernel_rfl) (by kernel_rfl) (by kernel_rfl) (fun _ _ _ _ h => h) (by first | exact v_fieldAddr ty42 fo42_0 ty3 rfl | exact v_fieldAddr_box ty42 fo42_0 ty3 rfl) rfl rfl ?_
      refine m_take 5 true rfl rfl (by kernel_rfl) (by kernel_rfl) (by kernel_rfl) (fun _ _ _ _ h => h) (by first | exact v_load ty3 rfl rfl (by first | rfl | assumption) (by first | assumption | exact map_get (by assumption) | rfl) rfl | exact v_load_box ty3 rfl rfl (by assumption) rfl) rfl rfl ?_
      refine m_take 6 false rfl rfl (by kernel_rfl) (by kernel_rfl) (by kernel_rfl) (fun _ _ _ _ h => h) (v_move rfl) rfl rfl ?_
      refine m_take 7 false rfl rfl (by kernel_rfl) (by kernel_rfl) (by kernel_rfl) (fun _ _ _ _ h => h) (v_move rfl) rfl rfl ?_
      refine m_take 8 false rfl rfl (by kernel_rfl) (by kernel_rfl) (by kernel_rfl) (fun _ _ _ _ h => h) (v_indexAddr ty35 ty42 rfl rfl (by first | rfl | assumption) (by first | rfl | exact (rfl : (0 : Int) = ((0 : Nat) : Int)) | exact (Int.toNat_of_nonneg (by omega)).symm) (by first | assumption | exact map_get (by assumption) | rfl) rfl) rfl rfl ?_
      refine m_take 9 false rfl rfl (by kernel_rfl) (by kernel_rfl) (by kernel_rfl) (fun _ _ _ _ h => h) (by first | exact v_fieldAddr ty42 fo42_1 ty3 rfl | exact v_fieldAddr_box ty42 fo42_1 ty3 rfl) rfl rfl ?_
      refine m_take 10 true rfl rfl (by kernel_rfl) (by kernel_rfl) (by kernel_rfl) (fun _ _ _ _ h => h) (by first | exact v_load ty3 rfl rfl (by first | rfl | assumption) (by first | assumption | exact map_get (by assumption) | rfl) rfl | exact v_load_box ty3 rfl rfl (by assumption) rfl) rfl rfl ?_
      refine m_take 11 false rfl rfl (by kernel_rfl) (by kernel_rfl) (by kernel_rfl) (fun _ _ _ _ h => h) (v_move rfl) rfl rfl ?_
      refine m_take 12 false rfl rfl (by kernel_rfl) (by kernel_rfl) (by kernel_rfl) (fun _ _ _ _ h => h) (v_move rfl) rfl rfl ?_
      refine m_take 13 false rfl rfl (by kernel_rfl) (by kernel_rfl) (by kernel_rfl) (fun _ _ _ _ h => h) (v_indexAddr ty35 ty42 rfl rfl (by first | rfl | assumption) (by first | rfl | exact (rfl : (0 : Int) = ((0 : Nat) : Int)) | exact (Int.toNat_of_nonneg (by omega)).symm) (by first | assumption | exact map_get (by assumption) | rfl) rfl) rfl rfl ?_
      refine m_take 14 false rfl rfl (by kernel_rfl) (by kernel_rfl) (by kernel_rfl) (fun _ _ _ _ h => h) (by first | exact v_fieldAddr ty42 fo42_2 ty37 rfl | exact v_fieldAddr_box ty42 fo42_2 ty37 rfl) rfl rfl ?_
      refine m_take 15 true rfl rfl (by kernel_rfl) (by kernel_rfl) (by kernel_rfl) (fun _ _ _ _ h => h) (by first | exact v_load_elt ty37 rfl rfl (by first | rfl | assumption) (by first | assumption | exact map_get (by assumption) | rfl) rfl rfl | exact v_load_box_all ty37 rfl rfl (by assumption) rfl rfl | exact v_load_part (cs := [_, _]) ty37 rfl rfl (by first | rfl | assumption) (by first | assumption | exact map_get (by assumption) | rfl) rfl rfl rfl | exact v_load_box_part (cs := [_, _]) ty37 rfl rfl (by assumption) rfl rfl rfl) rfl rfl ?_
      refine m_one 16 (by kernel_rfl) rfl rfl ?_
      refine sm_any rfl (s_call rfl rfl rfl (peersLearn_ok p r (bookOf (l.take k)) _ hq_G_p hq_G_r x.id x.inc x.sp) (fun b hb => .inr (by subst hb; exact hw_r)) ?_)
      rintro n2 r2 effs2 hn2 hdom2 ⟨rfl, rfl⟩ hok2
      generalize hE_G2 : setAll G [(r, bookRow (learn (bookOf (l.take k)) x.id x.inc x.sp))] = G2
      have hs_G2 : H.sub G2 := by rw [← hE_G2]; exact sub_set' hs_G hz0_r
      have hq_G2_r : G2 r = some (bookRow (learn (bookOf (l.take k)) x.id x.inc x.sp)) := by rw [← hE_G2]; exact AHeap.get_set _ _ _
      have hq_G2_p : G2 p = some (.box (.agg [.map r])) := by rw [← hE_G2]; exact (AHeap.get_set_ne _ _ hpr_p).trans hq_G_p
      refine m_done (by kernel_rfl) ?_
      refine g_block_normal ?_
      refine g_next hK9 ?_
      refine g_region ?_
      refine g_step rfl (s_val (v_move rfl) rfl rfl ?_)
      refine g_step rfl (s_val (v_add rfl rfl (by omega)) rfl rfl ?_)
      refine g_step rfl (s_val (v_assign rfl) rfl rfl ?_)
      refine g_nil ?_
      refine g_keep [0, 2, 7, 8] [4] [4] rfl rfl rfl rfl ?_
      exact g_round _ (by omega) ⟨k + 1, by omega, rfl, rfl, rfl, rfl, hq_G2_p, by rw [bookOf_take hx]; exact hq_G2_r, hs_G2⟩
    · try simp only [decide_eq_true_eq, decide_eq_false_iff_not, Bool.not_eq_true', Bool.not_eq_false', Bool.not_eq_eq_eq_not, Bool.not_true, Bool.not_false, Bool.and_eq_true, Bool.or_eq_true, Bool.or_eq_false_iff, beq_iff_eq, beq_eq_false_iff_ne, ne_eq, Int.not_lt, Int.not_le, Decidable.not_not] at hc22
      obtain rfl : k = l.length := by omega
      rw [List.take_length] at hq_G_r
      refine g_exit ?_
      refine g_then_exit ?_
      refine g_then_exit ?_
      refine g_block_same ?_
      refine g_next hK5 ?_
      refine g_seq (fun K10 hK10 => ?_)
      refine g_region ?_
      refine g_step rfl (s_val (v_move rfl) rfl rfl ?_)
      refine g_step rfl (s_val (by first | exact v_loadl_all ty37 rfl rfl rfl rfl rfl | exact v_loadl_part (cs := [_, _]) ty37 rfl rfl rfl rfl rfl rfl) rfl rfl ?_)
      refine g_step rfl (s_val (v_move rfl) rfl rfl ?_)
      refine g_step rfl (s_callp rfl rfl rfl (peersChoose_ok p r (bookOf l) _ hq_G_p hq_G_r own id) ?_)
      rintro _ rfl
      refine g_step rfl (s_val (v_move rfl) rfl rfl ?_)
      refine g_step rfl (s_val (v_extract rfl rfl) rfl rfl ?_)
      refine g_step rfl (s_val (v_extract rfl rfl) rfl rfl ?_)
      refine g_step rfl (s_val (v_assign rfl) rfl rfl ?_)
      refine g_step rfl (s_val (v_assign rfl) rfl rfl ?_)
      refine g_nil ?_
      refine g_next hK10 ?_
      refine g_seq (fun K11 hK11 => ?_)
      refine g_region ?_
      refine g_step rfl (s_val (v_move rfl) rfl rfl ?_)
      refine g_step rfl (s_val (v_move rfl) rfl rfl ?_)
      refine g_step rfl (s_callp rfl rfl rfl (peersGet_ok p r (bookOf l) _ hq_G_p hq_G_r id) ?_)
      rintro _ rfl
      refine g_step rfl (s_val (v_move rfl) rfl rfl ?_)
      refine g_step rfl (s_val (v_extract rfl rfl) rfl rfl ?_)
      refine g_step rfl (s_val (v_extract rfl rfl) rfl rfl ?_)
      refine g_step rfl (s_alloc (av := (.agg [(.int .i64 0), (.int .i64 0), (.int .i64 0)])) ty47 rfl rfl rfl rfl ?_)
      refine g_step rfl (s_store_all ty47 rfl rfl rfl rfl rfl rfl ?_)
      refine g_step rfl (s_val (v_assign rfl) rfl rfl ?_)
      refine g_nil ?_
      refine g_next hK11 ?_
      refine g_seq (fun K12 hK12 => ?_)
      refine g_seq (fun K13 hK13 => ?_)
      refine g_region ?_
      refine g_step rfl (s_val (v_move rfl) rfl rfl ?_)
      refine g_step rfl (s_val (v_not rfl) rfl rfl ?_)
      refine g_nil ?_
      refine g_next hK13 ?_
      refine g_cond rfl (fun hc56 => ?_) (fun hc56 => ?_)
      · try simp only [decide_eq_true_eq, decide_eq_false_iff_not, Bool.not_eq_true', Bool.not_eq_false', Bool.not_eq_eq_eq_not, Bool.not_true, Bool.not_false, Bool.and_eq_true, Bool.or_eq_true, Bool.or_eq_false_iff, beq_iff_eq, beq_eq_false_iff_ne, ne_eq, Int.not_lt, Int.not_le, Decidable.not_not] at hc56
        have hgn : pget (bookOf l) id = none := by cases hx : pget (bookOf l) id <;> simp_all
        rw [show chooseP (bookOf l) own id = (0, 0) by simp [chooseP, hgn]]
        refine g_seq (fun K14 hK14 => ?_)
        refine g_region ?_
        refine g_step rfl (s_val (v_move rfl) rfl rfl ?_)
        refine g_step rfl (s_val (v_eql rfl rfl) rfl rfl ?_)
        refine g_step rfl (s_val (v_move rfl) rfl rfl ?_)
        refine g_split 59 rfl (fun hg59 => ?_) (fun hg59 => ?_)
        · try simp only [decide_eq_true_eq, decide_eq_false_iff_not, Bool.not_eq_true', Bool.not_eq_false', Bool.not_eq_eq_eq_not, Bool.not_true, Bool.not_false, Bool.and_eq_true, Bool.or_eq_true, Bool.or_eq_false_iff, beq_iff_eq, beq_eq_false_iff_ne, ne_eq, Int.not_lt, Int.not_le, Decidable.not_not] at hg59
          refine g_step_yes (j := 2) (t := 59) rfl rfl rfl rfl (s_val (v_move rfl) rfl rfl ?_)
          refine g_step_yes (j := 2) (t := 59) rfl rfl rfl rfl (s_val (v_eql rfl rfl) rfl rfl ?_)
          refine g_step rfl (s_val (v_pick_t rfl rfl) rfl rfl ?_)
          refine g_step rfl (s_val (v_move rfl) rfl rfl ?_)
          refine g_split 63 rfl (fun hg63 => ?_) (fun hg63 => ?_)
          · try simp only [decide_eq_true_eq, decide_eq_false_iff_not, Bool.not_eq_true', Bool.not_eq_false', Bool.not_eq_eq_eq_not, Bool.not_true, Bool.not_false, Bool.and_eq_true, Bool.or_eq_true, Bool.or_eq_false_iff, beq_iff_eq, beq_eq_false_iff_ne, ne_eq, Int.not_lt, Int.not_le, Decidable.not_not] at hg63
            refine g_step_yes (j := 6) (t := 63) rfl rfl rfl rfl (s_val (v_move rfl) rfl rfl ?_)
            refine g_step_yes (j := 6) (t := 63) rfl rfl rfl rfl (s_val (v_eql rfl rfl) rfl rfl ?_)
            refine g_step rfl (s_val (v_pick_t rfl rfl) rfl rfl ?_)
            refine g_step rfl (s_val (v_move rfl) rfl rfl ?_)
            refine g_split 67 rfl (fun hg67 => ?_) (fun hg67 => ?_)
            · try simp only [decide_eq_true_eq, decide_eq_false_iff_not, Bool.not_eq_true', Bool.not_eq_false', Bool.not_eq_eq_eq_not, Bool.not_true, Bool.not_false, Bool.and_eq_true, Bool.or_eq_true, Bool.or_eq_false_iff, beq_iff_eq, beq_eq_false_iff_ne, ne_eq, Int.not_lt, Int.not_le, Decidable.not_not] at hg67
              refine g_step_yes (j := 10) (t := 67) rfl rfl rfl rfl (s_callp rfl rfl rfl (awake23_ok _) ?_)
              rintro _ rfl
              refine g_step rfl (s_val (v_pick_t rfl rfl) rfl rfl ?_)
              refine g_step rfl (s_val (v_assign rfl) rfl rfl ?_)
              refine g_nil ?_
              refine g_next hK14 ?_
              refine g_ret ?_
              refine g_then_ret ?_
              refine g_end1 (.inl rfl) Try.results6 (.tmp rfl) [] (ASub.refl _) hs_G (fun p hp => by cases hp) ⟨rfl, ?_⟩
              rfl
            · exfalso; (try simp only [decide_eq_true_eq, decide_eq_false_iff_not, Bool.not_eq_true', Bool.not_eq_false', Bool.not_eq_eq_eq_not, Bool.not_true, Bool.not_false, Bool.and_eq_true, Bool.or_eq_true, Bool.or_eq_false_iff, beq_iff_eq, beq_eq_false_iff_ne, ne_eq, Int.not_lt, Int.not_le, Decidable.not_not] at hg67); simp at hg67
          · exfalso; (try simp only [decide_eq_true_eq, decide_eq_false_iff_not, Bool.not_eq_true', Bool.not_eq_false', Bool.not_eq_eq_eq_not, Bool.not_true, Bool.not_false, Bool.and_eq_true, Bool.or_eq_true, Bool.or_eq_false_iff, beq_iff_eq, beq_eq_false_iff_ne, ne_eq, Int.not_lt, Int.not_le, Decidable.not_not] at hg63); simp at hg63
        · exfalso; (try simp only [decide_eq_true_eq, decide_eq_false_iff_not, Bool.not_eq_true', Bool.not_eq_false', Bool.not_eq_eq_eq_not, Bool.not_true, Bool.not_false, Bool.and_eq_true, Bool.or_eq_true, Bool.or_eq_false_iff, beq_iff_eq, beq_eq_false_iff_ne, ne_eq, Int.not_lt, Int.not_le, Decidable.not_not] at hg59); simp at hg59
      · try simp only [decide_eq_true_eq, decide_eq_false_iff_not, Bool.not_eq_true', Bool.not_eq_false', Bool.not_eq_eq_eq_not, Bool.not_true, Bool.not_false, Bool.and_eq_true, Bool.or_eq_true, Bool.or_eq_false_iff, beq_iff_eq, beq_eq_false_iff_ne, ne_eq, Int.not_lt, Int.not_le, Decidable.not_not] at hc56
        obtain ⟨q, hq⟩ : ∃ q, pget (bookOf l) id = some q := by cases hx : pget (bookOf l) id <;> simp_all
        have hlq : lookPe (bookOf l) id = q := by rw [lookPe, hq]; rfl
        have hvq := bookOf_valid l id q hq
        rw [hlq]
        refine g_skip ?_
        refine g_next hK12 ?_
        refine g_seq (fun K15 hK15 => ?_)
        refine g_seq (fun K16 hK16 => ?_)
        refine g_region ?_
        refine g_step rfl (s_val (v_assign rfl) rfl rfl ?_)
        refine g_nil ?_
        refine g_next hK16 ?_
        refine g_block ?_
        obtain ⟨G0, hG0⟩ : ∃ G0, G0 = G := ⟨_, rfl⟩
        have hs_G0 : H.sub G0 := hG0 ▸ hs_G
        refine g_keep [9, 10, 13] [4, 11] [4, 11] rfl rfl rfl rfl ?_
        refine g_loop (fun n env L B G => ∃ (k : Nat), n = k ∧ k ≤ 3 ∧ env = [(9, .int .i64 (chooseP (bookOf l) own id).1), (10, .int .i64 (chooseP (bookOf l) own id).2), (13, .int .i64 (k : Int))] ∧ L = [(4, 4, 0), (11, 11, 0)] ∧ B = [(4, encSp own), (11, encPe q)] ∧ G = G0 ∧ ∀ j : Int, k < j → j ≤ 3 → ¬ Both own q.sp j) 3 ⟨3, rfl, by omega, rfl, rfl, rfl, hG0.symm, fun j h1 h2 => by omega⟩ (fun n env L B G hI => ?_)
        obtain ⟨k, rfl, hk, rfl, rfl, rfl, rfl, hno⟩ := hI
        refine g_seq (fun K17 hK17 => ?_)
        refine g_seq (fun K18 hK18 => ?_)
        refine g_region ?_
        refine g_step rfl (s_val (v_move rfl) rfl rfl ?_)
        refine g_step rfl (s_val (v_geq rfl rfl) rfl rfl ?_)
        refine g_nil ?_
        refine g_next hK18 ?_
        refine g_cond rfl (fun hc71 => ?_) (fun hc71 => ?_)
        · try simp only [decide_eq_true_eq, decide_eq_false_iff_not, Bool.not_eq_true', Bool.not_eq_false', Bool.not_eq_eq_eq_not, Bool.not_true, Bool.not_false, Bool.and_eq_true, Bool.or_eq_true, Bool.or_eq_false_iff, beq_iff_eq, beq_eq_false_iff_ne, ne_eq, Int.not_lt, Int.not_le, Decidable.not_not] at hc71
          refine g_skip ?_
          refine g_next hK17 ?_
          refine g_seq (fun K19 hK19 => ?_)
          refine g_block ?_
          refine g_seq (fun K20 hK20 => ?_)
          refine g_region ?_
          refine g_step rfl (s_val (by first | exact v_loadl_all ty37 rfl rfl rfl rfl rfl | exact v_loadl_part (cs := [_, _]) ty37 rfl rfl rfl rfl rfl rfl) rfl rfl ?_)
          refine g_step rfl (s_callp rfl rfl rfl (spValid_ok _ _) ?_)
          rintro _ rfl
          refine g_step rfl (s_val (v_move rfl) rfl rfl ?_)
          refine g_split 76 rfl (fun hg76 => ?_) (fun hg76 => ?_)
          · try simp only [decide_eq_true_eq, decide_eq_false_iff_not, Bool.not_eq_true', Bool.not_eq_false', Bool.not_eq_eq_eq_not, Bool.not_true, Bool.not_false, Bool.and_eq_true, Bool.or_eq_true, Bool.or_eq_false_iff, beq_iff_eq, beq_eq_false_iff_ne, ne_eq, Int.not_lt, Int.not_le, Decidable.not_not] at hg76
            refine g_step_yes (j := 2) (t := 76) rfl rfl rfl rfl (s_fieldAddr ty37 fo37_0 ty3 rfl rfl ?_)
            refine g_step_yes (j := 2) (t := 76) rfl rfl rfl rfl (s_val (v_loadl ty3 rfl rfl rfl rfl) rfl rfl ?_)
            refine g_step_yes (j := 2) (t := 76) rfl rfl rfl rfl (s_val (v_move rfl) rfl rfl ?_)
            refine g_step_yes (j := 2) (t := 76) rfl rfl rfl rfl (s_val (v_leq rfl rfl) rfl rfl ?_)
            refine g_step rfl (s_val (v_pick_t rfl rfl) rfl rfl ?_)
            refine g_step rfl (s_val (v_move rfl) rfl rfl ?_)
            refine g_split 82 rfl (fun hg82 => ?_) (fun hg82 => ?_)
            · try simp only [decide_eq_true_eq, decide_eq_false_iff_not, Bool.not_eq_true', Bool.not_eq_false', Bool.not_eq_eq_eq_not, Bool.not_true, Bool.not_false, Bool.and_eq_true, Bool.or_eq_true, Bool.or_eq_false_iff, beq_iff_eq, beq_eq_false_iff_ne, ne_eq, Int.not_lt, Int.not_le, Decidable.not_not] at hg82
              refine g_step_yes (j := 8) (t := 82) rfl rfl rfl rfl (s_val (v_move rfl) rfl rfl ?_)
              refine g_step_yes (j := 8) (t := 82) rfl rfl rfl rfl (s_fieldAddr ty37 fo37_1 ty3 rfl rfl ?_)
              refine g_step_yes (j := 8) (t := 82) rfl rfl rfl rfl (s_val (v_loadl ty3 rfl rfl rfl rfl) rfl rfl ?_)
              refine g_step_yes (j := 8) (t := 82) rfl rfl rfl rfl (s_val (v_leq rfl rfl) rfl rfl ?_)
              refine g_step rfl (s_val (v_pick_t rfl rfl) rfl rfl ?_)
              refine g_step rfl (s_val (v_move rfl) rfl rfl ?_)
              refine g_split 88 rfl (fun hg88 => ?_) (fun hg88 => ?_)
              · try simp only [decide_eq_true_eq, decide_eq_false_iff_not, Bool.not_eq_true', Bool.not_eq_false', Bool.not_eq_eq_eq_not, Bool.not_true, Bool.not_false, Bool.and_eq_true, Bool.or_eq_true, Bool.or_eq_false_iff, beq_iff_eq, beq_eq_false_iff_ne, ne_eq, Int.not_lt, Int.not_le, Decidable.not_not] at hg88
                refine g_step_yes (j := 14) (t := 88) rfl rfl rfl rfl (s_fieldAddr ty47 fo47_1 ty37 rfl rfl ?_)
                refine g_step_yes (j := 14) (t := 88) rfl rfl rfl rfl (s_fieldAddr ty37 fo37_0 ty3 rfl rfl ?_)
                refine g_step_yes (j := 14) (t := 88) rfl rfl rfl rfl (s_val (v_loadl ty3 rfl rfl rfl rfl) rfl rfl ?_)
                refine g_step_yes (j := 14) (t := 88) rfl rfl rfl rfl (s_val (v_move rfl) rfl rfl ?_)
                refine g_step_yes (j := 14) (t := 88) rfl rfl rfl rfl (s_val (v_leq rfl rfl) rfl rfl ?_)
                refine g_step rfl (s_val (v_pick_t rfl rfl) rfl rfl ?_)
                refine g_step rfl (s_val (v_move rfl) rfl rfl ?_)
                refine g_split 95 rfl (fun hg95 => ?_) (fun hg95 => ?_)
                · try simp only [decide_eq_true_eq, decide_eq_false_iff_not, Bool.not_eq_true', Bool.not_eq_false', Bool.not_eq_eq_eq_not, Bool.not_true, Bool.not_false, Bool.and_eq_true, Bool.or_eq_true, Bool.or_eq_false_iff, beq_iff_eq, beq_eq_false_iff_ne, ne_eq, Int.not_lt, Int.not_le, Decidable.not_not] at hg95
                  refine g_step_yes (j := 21) (t := 95) rfl rfl rfl rfl (s_val (v_move rfl) rfl rfl ?_)
                  refine g_step_yes (j := 21) (t := 95) rfl rfl rfl rfl (s_fieldAddr ty47 fo47_1 ty37 rfl rfl ?_)
                  refine g_step_yes (j := 21) (t := 95) rfl rfl rfl rfl (s_fieldAddr ty37 fo37_1 ty3 rfl rfl ?_)
                  refine g_step_yes (j := 21) (t := 95) rfl rfl rfl rfl (s_val (v_loadl ty3 rfl rfl rfl rfl) rfl rfl ?_)
                  refine g_step_yes (j := 21) (t := 95) rfl rfl rfl rfl (s_val (v_leq rfl rfl) rfl rfl ?_)
                  refine g_step rfl (s_val (v_pick_t rfl rfl) rfl rfl ?_)
                  refine g_nil ?_
                  refine g_next hK20 ?_
                  refine g_cond rfl (fun hc101 => ?_) (fun hc101 => ?_)
                  · try simp only [decide_eq_true_eq, decide_eq_false_iff_not, Bool.not_eq_true', Bool.not_eq_false', Bool.not_eq_eq_eq_not, Bool.not_true, Bool.not_false, Bool.and_eq_true, Bool.or_eq_true, Bool.or_eq_false_iff, beq_iff_eq, beq_eq_false_iff_ne, ne_eq, Int.not_lt, Int.not_le, Decidable.not_not] at hc101
                    rw [show chooseP (bookOf l) own id = ((n : Int), 2) from choose_hit hq hvq ⟨by simp only [spHas, hg76, Bool.true_and, decide_eq_true_eq]; omega, by omega, by omega⟩ hno]
                    refine g_seq (fun K21 hK21 => ?_)
                    refine g_region ?_
                    refine g_step rfl (s_val (v_move rfl) rfl rfl ?_)
                    refine g_step rfl (s_val (v_move rfl) rfl rfl ?_)
                    refine g_step rfl (s_val (v_eql rfl rfl) rfl rfl ?_)
                    refine g_step rfl (s_val (v_move rfl) rfl rfl ?_)
                    refine g_split 105 rfl (fun hg105 => ?_) (fun hg105 => ?_)
                    · try simp only [decide_eq_true_eq, decide_eq_false_iff_not, Bool.not_eq_true', Bool.not_eq_false', Bool.not_eq_eq_eq_not, Bool.not_true, Bool.not_false, Bool.and_eq_true, Bool.or_eq_true, Bool.or_eq_false_iff, beq_iff_eq, beq_eq_false_iff_ne, ne_eq, Int.not_lt, Int.not_le, Decidable.not_not] at hg105
                      refine g_step_yes (j := 3) (t := 105) rfl rfl rfl rfl (s_val (v_move rfl) rfl rfl ?_)
                      refine g_step_yes (j := 3) (t := 105) rfl rfl rfl rfl (s_val (v_eql rfl rfl) rfl rfl ?_)
                      refine g_step rfl (s_val (v_pick_t rfl rfl) rfl rfl ?_)
                      refine g_step rfl (s_val (v_move rfl) rfl rfl ?_)
                      refine g_split 109 rfl (fun hg109 => ?_) (fun hg109 => ?_)
                      · try simp only [decide_eq_true_eq, decide_eq_false_iff_not, Bool.not_eq_true', Bool.not_eq_false', Bool.not_eq_eq_eq_not, Bool.not_true, Bool.not_false, Bool.and_eq_true, Bool.or_eq_true, Bool.or_eq_false_iff, beq_iff_eq, beq_eq_false_iff_ne, ne_eq, Int.not_lt, Int.not_le, Decidable.not_not] at hg109
                        refine g_step_yes (j := 7) (t := 109) rfl rfl rfl rfl (s_val (v_move rfl) rfl rfl ?_)
                        refine g_step_yes (j := 7) (t := 109) rfl rfl rfl rfl (s_val (v_eql rfl rfl) rfl rfl ?_)
                        refine g_step rfl (s_val (v_pick_t rfl rfl) rfl rfl ?_)
                        refine g_step rfl (s_val (v_move rfl) rfl rfl ?_)
                        refine g_split 113 rfl (fun hg113 => ?_) (fun hg113 => ?_)
                        · try simp only [decide_eq_true_eq, decide_eq_false_iff_not, Bool.not_eq_true', Bool.not_eq_false', Bool.not_eq_eq_eq_not, Bool.not_true, Bool.not_false, Bool.and_eq_true, Bool.or_eq_true, Bool.or_eq_false_iff, beq_iff_eq, beq_eq_false_iff_ne, ne_eq, Int.not_lt, Int.not_le, Decidable.not_not] at hg113
                          refine g_step_yes (j := 11) (t := 113) rfl rfl rfl rfl (s_callp rfl rfl rfl (awake23_ok _) ?_)
                          rintro _ rfl
                          refine g_step rfl (s_val (v_pick_t rfl rfl) rfl rfl ?_)
                          refine g_step rfl (s_val (v_assign rfl) rfl rfl ?_)
                          refine g_nil ?_
                          refine g_next hK21 ?_
                          refine g_ret ?_
                          refine g_block_ret ?_
                          refine g_then_ret ?_
                          refine g_then_ret ?_
                          refine g_block_ret ?_
                          refine g_then_ret ?_
                          refine g_end1 (.inl rfl) Try.results6 (.tmp rfl) [] (ASub.refl _) hs_G0 (fun p hp => by cases hp) ⟨rfl, ?_⟩
                          rfl
                        · exfalso; (try simp only [decide_eq_true_eq, decide_eq_false_iff_not, Bool.not_eq_true', Bool.not_eq_false', Bool.not_eq_eq_eq_not, Bool.not_true, Bool.not_false, Bool.and_eq_true, Bool.or_eq_true, Bool.or_eq_false_iff, beq_iff_eq, beq_eq_false_iff_ne, ne_eq, Int.not_lt, Int.not_le, Decidable.not_not] at hg113); simp at hg113
                      · exfalso; (try simp only [decide_eq_true_eq, decide_eq_false_iff_not, Bool.not_eq_true', Bool.not_eq_false', Bool.not_eq_eq_eq_not, Bool.not_true, Bool.not_false, Bool.and_eq_true, Bool.or_eq_true, Bool.or_eq_false_iff, beq_iff_eq, beq_eq_false_iff_ne, ne_eq, Int.not_lt, Int.not_le, Decidable.not_not] at hg109); simp at hg109
                    · exfalso; (try simp only [decide_eq_true_eq, decide_eq_false_iff_not, Bool.not_eq_true', Bool.not_eq_false', Bool.not_eq_eq_eq_not, Bool.not_true, Bool.not_false, Bool.and_eq_true, Bool.or_eq_true, Bool.or_eq_false_iff, beq_iff_eq, beq_eq_false_iff_ne, ne_eq, Int.not_lt, Int.not_le, Decidable.not_not] at hg105); simp at hg105
                  · try simp only [decide_eq_true_eq, decide_eq_false_iff_not, Bool.not_eq_true', Bool.not_eq_false', Bool.not_eq_eq_eq_not, Bool.not_true, Bool.not_false, Bool.and_eq_true, Bool.or_eq_true, Bool.or_eq_false_iff, beq_iff_eq, beq_eq_false_iff_ne, ne_eq, Int.not_lt, Int.not_le, Decidable.not_not] at hc101
                    refine g_skip ?_
                    refine g_block_normal ?_
                    refine g_next hK19 ?_
                    refine g_region ?_
                    refine g_step rfl (s_val (v_move rfl) rfl rfl ?_)
                    refine g_step rfl (s_val (v_sub_ rfl rfl (by omega)) rfl rfl ?_)
                    refine g_step rfl (s_val (v_assign rfl) rfl rfl ?_)
                    refine g_nil ?_
                    refine g_keep [9, 10, 13] [4, 11] [4, 11] rfl rfl rfl rfl ?_
                    exact g_round _ (by omega) ⟨n - 1, rfl, by omega, by rw [show (((n - 1 : Nat) : Int)) = (n : Int) - 1 by omega]; rfl, rfl, rfl, rfl, fun j h1 h2 => by
                        rcases Int.lt_or_le (n : Int) j with h3 | h3
                        · exact hno j h3 h2
                        · obtain rfl : j = (n : Int) := by omega
                          rintro ⟨h4, h5, h6⟩
                          simp only [spHas, Bool.and_eq_true, decide_eq_true_eq] at h4
                          first | omega | (rw [hg76] at h4; simp at h4)⟩
                · try simp only [decide_eq_true_eq, decide_eq_false_iff_not, Bool.not_eq_true', Bool.not_eq_false', Bool.not_eq_eq_eq_not, Bool.not_true, Bool.not_false, Bool.and_eq_true, Bool.or_eq_true, Bool.or_eq_false_iff, beq_iff_eq, beq_eq_false_iff_ne, ne_eq, Int.not_lt, Int.not_le, Decidable.not_not] at hg95
                  refine g_step_no (j := 21) (t := 95) rfl rfl rfl rfl rfl rfl rfl ?_
                  refine g_step_no (j := 21) (t := 95) rfl rfl rfl rfl rfl rfl rfl ?_
                  refine g_step_no (j := 21) (t := 95) rfl rfl rfl rfl rfl rfl rfl ?_
                  refine g_step_no (j := 21) (t := 95) rfl rfl rfl rfl rfl rfl rfl ?_
                  refine g_step_no (j := 21) (t := 95) rfl rfl rfl rfl rfl rfl rfl ?_
                  refine g_step rfl (s_val (v_pick_f rfl rfl) rfl rfl ?_)
                  refine g_nil ?_
                  refine g_next hK20 ?_
                  refine g_cond rfl (fun h => by cases h) (fun _ => ?_)
                  refine g_skip ?_
                  refine g_block_normal ?_
                  refine g_next hK19 ?_
                  refine g_region ?_
                  refine g_step rfl (s_val (v_move rfl) rfl rfl ?_)
                  refine g_step rfl (s_val (v_sub_ rfl rfl (by omega)) rfl rfl ?_)
                  refine g_step rfl (s_val (v_assign rfl) rfl rfl ?_)
                  refine g_nil ?_
                  refine g_keep [9, 10, 13] [4, 11] [4, 11] rfl rfl rfl rfl ?_
                  exact g_round _ (by omega) ⟨n - 1, rfl, by omega, by rw [show (((n - 1 : Nat) : Int)) = (n : Int) - 1 by omega]; rfl, rfl, rfl, rfl, fun j h1 h2 => by
                      rcases Int.lt_or_le (n : Int) j with h3 | h3
                      · exact hno j h3 h2
                      · obtain rfl : j = (n : Int) := by omega
                        rintro ⟨h4, h5, h6⟩
                        simp only [spHas, Bool.and_eq_true, decide_eq_true_eq] at h4
                        first | omega | (rw [hg76] at h4; simp at h4)⟩
              · try simp only [decide_eq_true_eq, decide_eq_false_iff_not, Bool.not_eq_true', Bool.not_eq_false', Bool.not_eq_eq_eq_not, Bool.not_true, Bool.not_false, Bool.and_eq_true, Bool.or_eq_true, Bool.or_eq_false_iff, beq_iff_eq, beq_eq_false_iff_ne, ne_eq, Int.not_lt, Int.not_le, Decidable.not_not] at hg88
                refine g_step_no (j := 14) (t := 88) rfl rfl rfl rfl rfl rfl rfl ?_
                refine g_step_no (j := 14) (t := 88) rfl rfl rfl rfl rfl rfl rfl ?_
                refine g_step_no (j := 14) (t := 88) rfl rfl rfl rfl rfl rfl rfl ?_
                refine g_step_no (j := 14) (t := 88) rfl rfl rfl rfl rfl rfl rfl ?_
                refine g_step_no (j := 14) (t := 88) rfl rfl rfl rfl rfl rfl rfl ?_
                refine g_step rfl (s_val (v_pick_f rfl rfl) rfl rfl ?_)
                refine g_step rfl (s_val (v_move rfl) rfl rfl ?_)
                refine g_step_no (j := 21) (t := 95) rfl rfl rfl rfl rfl rfl rfl ?_
                refine g_step_no (j := 21) (t := 95) rfl rfl rfl rfl rfl rfl rfl ?_
                refine g_step_no (j := 21) (t := 95) rfl rfl rfl rfl rfl rfl rfl ?_
                refine g_step_no (j := 21) (t := 95) rfl rfl rfl rfl rfl rfl rfl ?_
                refine g_step_no (j := 21) (t := 95) rfl rfl rfl rfl rfl rfl rfl ?_
                refine g_step rfl (s_val (v_pick_f rfl rfl) rfl rfl ?_)
                refine g_nil ?_
                refine g_next hK20 ?_
                refine g_cond rfl (fun h => by cases h) (fun _ => ?_)
                refine g_skip ?_
                refine g_block_normal ?_
                refine g_next hK19 ?_
                refine g_region ?_
                refine g_step rfl (s_val (v_move rfl) rfl rfl ?_)
                refine g_step rfl (s_val (v_sub_ rfl rfl (by omega)) rfl rfl ?_)
                refine g_step rfl (s_val (v_assign rfl) rfl rfl ?_)
                refine g_nil ?_
                refine g_keep [9, 10, 13] [4, 11] [4, 11] rfl rfl rfl rfl ?_
                exact g_round _ (by omega) ⟨n - 1, rfl, by omega, by rw [show (((n - 1 : Nat) : Int)) = (n : Int) - 1 by omega]; rfl, rfl, rfl, rfl, fun j h1 h2 => by
                    rcases Int.lt_or_le (n : Int) j with h3 | h3
                    · exact hno j h3 h2
                    · obtain rfl : j = (n : Int) := by omega
                      rintro ⟨h4, h5, h6⟩
                      simp only [spHas, Bool.and_eq_true, decide_eq_true_eq] at h4
                      first | omega | (rw [hg76] at h4; simp at h4)⟩
            · try simp only [decide_eq_true_eq, decide_eq_false_iff_not, Bool.not_eq_true', Bool.not_eq_false', Bool.not_eq_eq_eq_not, Bool.not_true, Bool.not_false, Bool.and_eq_true, Bool.or_eq_true, Bool.or_eq_false_iff, beq_iff_eq, beq_eq_false_iff_ne, ne_eq, Int.not_lt, Int.not_le, Decidable.not_not] at hg82
              refine g_step_no (j := 8) (t := 82) rfl rfl rfl rfl rfl rfl rfl ?_
              refine g_step_no (j := 8) (t := 82) rfl rfl rfl rfl rfl rfl rfl ?_
              refine g_step_no (j := 8) (t := 82) rfl rfl rfl rfl rfl rfl rfl ?_
              refine g_step_no (j := 8) (t := 82) rfl rfl rfl rfl rfl rfl rfl ?_
              refine g_step rfl (s_val (v_pick_f rfl rfl) rfl rfl ?_)
              refine g_step rfl (s_val (v_move rfl) rfl rfl ?_)
              refine g_step_no (j := 14) (t := 88) rfl rfl rfl rfl rfl rfl rfl ?_
              refine g_step_no (j := 14) (t := 88) rfl rfl rfl rfl rfl rfl rfl ?_
              refine g_step_no (j := 14) (t := 88) rfl rfl rfl rfl rfl rfl rfl ?_
              refine g_step_no (j := 14) (t := 88) rfl rfl rfl rfl rfl rfl rfl ?_
              refine g_step_no (j := 14) (t := 88) rfl rfl rfl rfl rfl rfl rfl ?_
              refine g_step rfl (s_val (v_pick_f rfl rfl) rfl rfl ?_)
              refine g_step rfl (s_val (v_move rfl) rfl rfl ?_)
              refine g_step_no (j := 21) (t := 95) rfl rfl rfl rfl rfl rfl rfl ?_
              refine g_step_no (j := 21) (t := 95) rfl rfl rfl rfl rfl rfl rfl ?_
              refine g_step_no (j := 21) (t := 95) rfl rfl rfl rfl rfl rfl rfl ?_
              refine g_step_no (j := 21) (t := 95) rfl rfl rfl rfl rfl rfl rfl ?_
              refine g_step_no (j := 21) (t := 95) rfl rfl rfl rfl rfl rfl rfl ?_
              refine g_step rfl (s_val (v_pick_f rfl rfl) rfl rfl ?_)
              refine g_nil ?_
              refine g_next hK20 ?_
              refine g_cond rfl (fun h => by cases h) (fun _ => ?_)
              refine g_skip ?_
              refine g_block_normal ?_
              refine g_next hK19 ?_
              refine g_region ?_
              refine g_step rfl (s_val (v_move rfl) rfl rfl ?_)
              refine g_step rfl (s_val (v_sub_ rfl rfl (by omega)) rfl rfl ?_)
              refine g_step rfl (s_val (v_assign rfl) rfl rfl ?_)
              refine g_nil ?_
              refine g_keep [9, 10, 13] [4, 11] [4, 11] rfl rfl rfl rfl ?_
              exact g_round _ (by omega) ⟨n - 1, rfl, by omega, by rw [show (((n - 1 : Nat) : Int)) = (n : Int) - 1 by omega]; rfl, rfl, rfl, rfl, fun j h1 h2 => by
                  rcases Int.lt_or_le (n : Int) j with h3 | h3
                  · exact hno j h3 h2
                  · obtain rfl : j = (n : Int) := by omega
                    rintro ⟨h4, h5, h6⟩
                    simp only [spHas, Bool.and_eq_true, decide_eq_true_eq] at h4
                    first | omega | (rw [hg76] at h4; simp at h4)⟩
          · try simp only [decide_eq_true_eq, decide_eq_false_iff_not, Bool.not_eq_true', Bool.not_eq_false', Bool.not_eq_eq_eq_not, Bool.not_true, Bool.not_false, Bool.and_eq_true, Bool.or_eq_true, Bool.or_eq_false_iff, beq_iff_eq, beq_eq_false_iff_ne, ne_eq, Int.not_lt, Int.not_le, Decidable.not_not] at hg76
            refine g_step_no (j := 2) (t := 76) rfl rfl rfl rfl rfl rfl rfl ?_
            refine g_step_no (j := 2) (t := 76) rfl rfl rfl rfl rfl rfl rfl ?_
            refine g_step_no (j := 2) (t := 76) rfl rfl rfl rfl rfl rfl rfl ?_
            refine g_step_no (j := 2) (t := 76) rfl rfl rfl rfl rfl rfl rfl ?_
            refine g_step rfl (s_val (v_pick_f rfl rfl) rfl rfl ?_)
            refine g_step rfl (s_val (v_move rfl) rfl rfl ?_)
            refine g_step_no (j := 8) (t := 82) rfl rfl rfl rfl rfl rfl rfl ?_
            refine g_step_no (j := 8) (t := 82) rfl rfl rfl rfl rfl rfl rfl ?_
            refine g_step_no (j := 8) (t := 82) rfl rfl rfl rfl rfl rfl rfl ?_
            refine g_step_no (j := 8) (t := 82) rfl rfl rfl rfl rfl rfl rfl ?_
            refine g_step rfl (s_val (v_pick_f rfl rfl) rfl rfl ?_)
            refine g_step rfl (s_val (v_move rfl) rfl rfl ?_)
            refine g_step_no (j := 14) (t := 88) rfl rfl rfl rfl rfl rfl rfl ?_
            refine g_step_no (j := 14) (t := 88) rfl rfl rfl rfl rfl rfl rfl ?_
            refine g_step_no (j := 14) (t := 88) rfl rfl rfl rfl rfl rfl rfl ?_
            refine g_step_no (j := 14) (t := 88) rfl rfl rfl rfl rfl rfl rfl ?_
            refine g_step_no (j := 14) (t := 88) rfl rfl rfl rfl rfl rfl rfl ?_
            refine g_step rfl (s_val (v_pick_f rfl rfl) rfl rfl ?_)
            refine g_step rfl (s_val (v_move rfl) rfl rfl ?_)
            refine g_step_no (j := 21) (t := 95) rfl rfl rfl rfl rfl rfl rfl ?_
            refine g_step_no (j := 21) (t := 95) rfl rfl rfl rfl rfl rfl rfl ?_
            refine g_step_no (j := 21) (t := 95) rfl rfl rfl rfl rfl rfl rfl ?_
            refine g_step_no (j := 21) (t := 95) rfl rfl rfl rfl rfl rfl rfl ?_
            refine g_step_no (j := 21) (t := 95) rfl rfl rfl rfl rfl rfl rfl ?_
            refine g_step rfl (s_val (v_pick_f rfl rfl) rfl rfl ?_)
            refine g_nil ?_
            refine g_next hK20 ?_
            refine g_cond rfl (fun h => by cases h) (fun _ => ?_)
            refine g_skip ?_
            refine g_block_normal ?_
            refine g_next hK19 ?_
            refine g_region ?_
            refine g_step rfl (s_val (v_move rfl) rfl rfl ?_)
            refine g_step rfl (s_val (v_sub_ rfl rfl (by omega)) rfl rfl ?_)
            refine g_step rfl (s_val (v_assign rfl) rfl rfl ?_)
            refine g_nil ?_
            refine g_keep [9, 10, 13] [4, 11] [4, 11] rfl rfl rfl rfl ?_
            exact g_round _ (by omega) ⟨n - 1, rfl, by omega, by rw [show (((n - 1 : Nat) : Int)) = (n : Int) - 1 by omega]; rfl, rfl, rfl, rfl, fun j h1 h2 => by
                rcases Int.lt_or_le (n : Int) j with h3 | h3
                · exact hno j h3 h2
                · obtain rfl : j = (n : Int) := by omega
                  rintro ⟨h4, h5, h6⟩
                  simp only [spHas, Bool.and_eq_true, decide_eq_true_eq] at h4
                  first | omega | (rw [hg76] at h4; simp at h4)⟩
        · try simp only [decide_eq_true_eq, decide_eq_false_iff_not, Bool.not_eq_true', Bool.not_eq_false', Bool.not_eq_eq_eq_not, Bool.not_true, Bool.not_false, Bool.and_eq_true, Bool.or_eq_true, Bool.or_eq_false_iff, beq_iff_eq, beq_eq_false_iff_ne, ne_eq, Int.not_lt, Int.not_le, Decidable.not_not] at hc71
          obtain rfl : n = 0 := by omega
          rw [show chooseP (bookOf l) own id = (0, 1) from choose_miss hq hvq hno]
          refine g_exit ?_
          refine g_then_exit ?_
          refine g_then_exit ?_
          refine g_block_same ?_
          refine g_next hK15 ?_
          refine g_seq (fun K22 hK22 => ?_)
          refine g_region ?_
          refine g_step rfl (s_val (v_move rfl) rfl rfl ?_)
          refine g_step rfl (s_val (v_eql rfl rfl) rfl rfl ?_)
          refine g_step rfl (s_val (v_move rfl) rfl rfl ?_)
          refine g_split 118 rfl (fun hg118 => ?_) (fun hg118 => ?_)
          · try simp only [decide_eq_true_eq, decide_eq_false_iff_not, Bool.not_eq_true', Bool.not_eq_false', Bool.not_eq_eq_eq_not, Bool.not_true, Bool.not_false, Bool.and_eq_true, Bool.or_eq_true, Bool.or_eq_false_iff, beq_iff_eq, beq_eq_false_iff_ne, ne_eq, Int.not_lt, Int.not_le, Decidable.not_not] at hg118
            refine g_step_yes (j := 2) (t := 118) rfl rfl rfl rfl (s_val (v_move rfl) rfl rfl ?_)
            refine g_step_yes (j := 2) (t := 118) rfl rfl rfl rfl (s_val (v_eql rfl rfl) rfl rfl ?_)
            refine g_step rfl (s_val (v_pick_t rfl rfl) rfl rfl ?_)
            refine g_step rfl (s_val (v_move rfl) rfl rfl ?_)
            refine g_split 122 rfl (fun hg122 => ?_) (fun hg122 => ?_)
            · try simp only [decide_eq_true_eq, decide_eq_false_iff_not, Bool.not_eq_true', Bool.not_eq_false', Bool.not_eq_eq_eq_not, Bool.not_true, Bool.not_false, Bool.and_eq_true, Bool.or_eq_true, Bool.or_eq_false_iff, beq_iff_eq, beq_eq_false_iff_ne, ne_eq, Int.not_lt, Int.not_le, Decidable.not_not] at hg122
              refine g_step_yes (j := 6) (t := 122) rfl rfl rfl rfl (s_val (v_move rfl) rfl rfl ?_)
              refine g_step_yes (j := 6) (t := 122) rfl rfl rfl rfl (s_val (v_eql rfl rfl) rfl rfl ?_)
              refine g_step rfl (s_val (v_pick_t rfl rfl) rfl rfl ?_)
              refine g_step rfl (s_val (v_move rfl) rfl rfl ?_)
              refine g_split 126 rfl (fun hg126 => ?_) (fun hg126 => ?_)
              · try simp only [decide_eq_true_eq, decide_eq_false_iff_not, Bool.not_eq_true', Bool.not_eq_false', Bool.not_eq_eq_eq_not, Bool.not_true, Bool.not_false, Bool.and_eq_true, Bool.or_eq_true, Bool.or_eq_false_iff, beq_iff_eq, beq_eq_false_iff_ne, ne_eq, Int.not_lt, Int.not_le, Decidable.not_not] at hg126
                refine g_step_yes (j := 10) (t := 126) rfl rfl rfl rfl (s_callp rfl rfl rfl (awake23_ok _) ?_)
                rintro _ rfl
                refine g_step rfl (s_val (v_pick_t rfl rfl) rfl rfl ?_)
                refine g_step rfl (s_val (v_assign rfl) rfl rfl ?_)
                refine g_nil ?_
                refine g_next hK22 ?_
                refine g_ret ?_
                refine g_end1 (.inl rfl) Try.results6 (.tmp rfl) [] (ASub.refl _) hs_G0 (fun p hp => by cases hp) ⟨rfl, ?_⟩
                rfl
              · exfalso; (try simp only [decide_eq_true_eq, decide_eq_false_iff_not, Bool.not_eq_true', Bool.not_eq_false', Bool.not_eq_eq_eq_not, Bool.not_true, Bool.not_false, Bool.and_eq_true, Bool.or_eq_true, Bool.or_eq_false_iff, beq_iff_eq, beq_eq_false_iff_ne, ne_eq, Int.not_lt, Int.not_le, Decidable.not_not] at hg126); simp at hg126
            · exfalso; (try simp only [decide_eq_true_eq, decide_eq_false_iff_not, Bool.not_eq_true', Bool.not_eq_false', Bool.not_eq_eq_eq_not, Bool.not_true, Bool.not_false, Bool.and_eq_true, Bool.or_eq_true, Bool.or_eq_false_iff, beq_iff_eq, beq_eq_false_iff_ne, ne_eq, Int.not_lt, Int.not_le, Decidable.not_not] at hg122); simp at hg122
          · exfalso; (try simp only [decide_eq_true_eq, decide_eq_false_iff_not, Bool.not_eq_true', Bool.not_eq_false', Bool.not_eq_eq_eq_not, Bool.not_true, Bool.not_false, Bool.and_eq_true, Bool.or_eq_true, Bool.or_eq_false_iff, beq_iff_eq, beq_eq_false_iff_ne, ne_eq, Int.not_lt, Int.not_le, Decidable.not_not] at hg118); simp at hg118

theorem peersAgreeLaw_ok (a b : Sp) (inc other : Int) (G : AHeap) : PCalls Try.prog 7 [encSp a, encSp b, .int .i64 inc, .int .i64 other] G (fun r => r = .bool true) := by
  refine LCalls.intro 98 fi7 rfl Try.ntmps7 rfl (fun _ h => h.elim) (fun H hH w0 hw0 => ?_)
  refine g_seq (fun K0 hK0 => ?_)
  refine g_region ?_
  refine g_step rfl (s_box rfl rfl rfl rfl ?_)
  refine g_step rfl (s_box rfl rfl rfl rfl ?_)
  refine g_step rfl (s_val (v_assign rfl) rfl rfl ?_)
  refine g_nil ?_
  refine g_next hK0 ?_
  refine g_seq (fun K1 hK1 => ?_)
  refine g_region ?_
  refine g_step rfl (s_call rfl rfl rfl (peersNew_ok _) (fun _ h => h.elim) ?_)
  rintro n1 r1 effs1 hn1 hdom1 ⟨p, r, hp1, hr1, hpr_p, rfl, rfl⟩ hok1
  have hw_p : w0.heap.size ≤ p := Nat.le_trans hn1 hp1
  have hw_r : w0.heap.size ≤ r := Nat.le_trans hn1 hr1
  have hz_p := hdom1 _ hp1
  have hz_r := hdom1 _ hr1
  have hz0_p := sub_none (AHeap.sub_refl _) hz_p
  have hz0_r := sub_none (AHeap.sub_refl _) hz_r
  generalize hE_G1 : setAll H [(p, .box (.agg [.map r])), (r, bookRow [])] = G1
  have hs_G1 : H.sub G1 := by rw [← hE_G1]; exact sub_set' (sub_set' (AHeap.sub_refl _) hz0_r) hz0_p
  have hq_G1_p : G1 p = some (.box (.agg [.map r])) := by rw [← hE_G1]; exact AHeap.get_set _ _ _
  have hq_G1_r : G1 r = some (bookRow []) := by rw [← hE_G1]; exact (AHeap.get_set_ne _ _ (Ne.symm hpr_p)).trans (AHeap.get_set _ _ _)
  refine g_step rfl (s_val (v_assign rfl) rfl rfl ?_)
  refine g_nil ?_
  refine g_next hK1 ?_
  refine g_seq (fun K2 hK2 => ?_)
  refine g_region ?_
  refine g_step rfl (s_call rfl rfl rfl (peersNew_ok _) (fun _ h => h.elim) ?_)
  rintro n2 r2 effs2 hn2 hdom2 ⟨p2, r2, hp2, hr2, hpr_p2, rfl, rfl⟩ hok2
  have hw_p2 : w0.heap.size ≤ p2 := Nat.le_trans hn2 hp2
  have hw_r2 : w0.heap.size ≤ r2 := Nat.le_trans hn2 hr2
  have hz_p2 := hdom2 _ hp2
  have hz_r2 := hdom2 _ hr2
  have hz0_p2 := sub_none hs_G1 hz_p2
  have hz0_r2 := sub_none hs_G1 hz_r2
  generalize hE_G2 : setAll G1 [(p2, .box (.agg [.map r2])), (r2, bookRow [])] = G2
  have hs_G2 : H.sub G2 := by rw [← hE_G2]; exact sub_set' (sub_set' hs_G1 hz0_r2) hz0_p2
  have hq_G2_p2 : G2 p2 = some (.box (.agg [.map r2])) := by rw [← hE_G2]; exact AHeap.get_set _ _ _
  have hq_G2_r2 : G2 r2 = some (bookRow []) := by rw [← hE_G2]; exact (AHeap.get_set_ne _ _ (Ne.symm hpr_p2)).trans (AHeap.get_set _ _ _)
  have hne_p_p2 : p ≠ p2 := fun e => by rw [← e, hq_G1_p] at hz_p2; cases hz_p2
  have hne_p_r2 : p ≠ r2 := fun e => by rw [← e, hq_G1_p] at hz_r2; cases hz_r2
  have hne_r_p2 : r ≠ p2 := fun e => by rw [← e, hq_G1_r] at hz_p2; cases hz_p2
  have hne_r_r2 : r ≠ r2 := fun e => by rw [← e, hq_G1_r] at hz_r2; cases hz_r2
  have hq_G2_p : G2 p = some (.box (.agg [.map r])) := by rw [← hE_G2]; exact (AHeap.get_set_ne _ _ hne_p_p2).trans ((AHeap.get_set_ne _ _ hne_p_r2).trans hq_G1_p)
  have hq_G2_r : G2 r = some (bookRow []) := by rw [← hE_G2]; exact (AHeap.get_set_ne _ _ hne_r_p2).trans ((AHeap.get_set_ne _ _ hne_r_r2).trans hq_G1_r)
  refine g_step rfl (s_val (v_assign rfl) rfl rfl ?_)
  refine g_nil ?_
  refine g_next hK2 ?_
  refine g_seq (fun K3 hK3 => ?_)
  refine g_seq (fun K4 hK4 => ?_)
  refine g_region ?_
  refine g_step rfl (s_val (v_move rfl) rfl rfl ?_)
  refine g_step rfl (s_val (v_move rfl) rfl rfl ?_)
  refine g_step rfl (s_val (by first | exact v_loadl_all ty37 rfl rfl rfl rfl rfl | exact v_loadl_part (cs := [_, _]) ty37 rfl rfl rfl rfl rfl rfl) rfl rfl ?_)
  refine g_step rfl (s_call rfl rfl rfl (peersLearn_ok p r [] _ hq_G2_p hq_G2_r 1 inc b) (fun b hb => .inr (by subst hb; exact hw_r)) ?_)
  rintro n3 r3 effs3 hn3 hdom3 ⟨rfl, rfl⟩ hok3
  generalize hE_G3 : setAll G2 [(r, bookRow (learn [] 1 inc b))] = G3
  have hs_G3 : H.sub G3 := by rw [← hE_G3]; exact sub_set' hs_G2 hz0_r
  have hq_G3_r : G3 r = some (bookRow (learn [] 1 inc b)) := by rw [← hE_G3]; exact AHeap.get_set _ _ _
  have hq_G3_p : G3 p = some (.box (.agg [.map r])) := by rw [← hE_G3]; exact (AHeap.get_set_ne _ _ hpr_p).trans hq_G2_p
  have hq_G3_p2 : G3 p2 = some (.box (.agg [.map r2])) := by rw [← hE_G3]; exact (AHeap.get_set_ne _ _ (Ne.symm hne_r_p2)).trans hq_G2_p2
  have hq_G3_r2 : G3 r2 = some (bookRow []) := by rw [← hE_G3]; exact (AHeap.get_set_ne _ _ (Ne.symm hne_r_r2)).trans hq_G2_r2
  refine g_step rfl (s_val (v_not rfl) rfl rfl ?_)
  refine g_step rfl (s_val (v_move rfl) rfl rfl ?_)
  refine g_split 22 rfl (fun hg22 => ?_) (fun hg22 => ?_)
  · try simp only [decide_eq_true_eq, decide_eq_false_iff_not, Bool.not_eq_true', Bool.not_eq_false', Bool.not_eq_eq_eq_not, Bool.not_true, Bool.not_false, Bool.and_eq_true, Bool.or_eq_true, Bool.or_eq_false_iff, beq_iff_eq, beq_eq_false_iff_ne, ne_eq, Int.not_lt, Int.not_le, Decidable.not_not] at hg22
    have hL : (decide (0 ≤ inc ∧ inc ≤ 281474976710655) && spValid b) = false ∨ (decide (0 ≤ other ∧ other ≤ 281474976710655) && spValid a) = false := .inl (by rw [← learnOk_new 1 inc b (by omega)]; exact hg22)
    refine g_step_no (j := 5) (t := 22) rfl rfl rfl rfl rfl rfl rfl ?_
    refine g_step_no (j := 5) (t := 22) rfl rfl rfl rfl rfl rfl rfl ?_
    refine g_step_no (j := 5) (t := 22) rfl rfl rfl rfl rfl rfl rfl ?_
    refine g_step_no (j := 5) (t := 22) rfl rfl rfl rfl rfl rfl rfl ?_
    refine g_step_no (j := 5) (t := 22) rfl rfl rfl rfl rfl rfl rfl ?_
    refine g_step rfl (s_val (v_pick_t rfl rfl) rfl rfl ?_)
    refine g_nil ?_
    refine g_next hK4 ?_
    refine g_cond rfl (fun _ => ?_) (fun h => by cases h)
    refine g_seq (fun K5 hK5 => ?_)
    refine g_region ?_
    refine g_step rfl (s_val (by first | exact v_loadl_all ty37 rfl rfl rfl rfl rfl | exact v_loadl_part (cs := [_, _]) ty37 rfl rfl rfl rfl rfl rfl) rfl rfl ?_)
    refine g_step rfl (s_callp rfl rfl rfl (spValid_ok _ _) ?_)
    rintro _ rfl
    refine g_step rfl (s_val (v_not rfl) rfl rfl ?_)
    refine g_step rfl (s_val (v_move rfl) rfl rfl ?_)
    refine g_split 32 rfl (fun hg32 => ?_) (fun hg32 => ?_)
    · try simp only [decide_eq_true_eq, decide_eq_false_iff_not, Bool.not_eq_true', Bool.not_eq_false', Bool.not_eq_eq_eq_not, Bool.not_true, Bool.not_false, Bool.and_eq_true, Bool.or_eq_true, Bool.or_eq_false_iff, beq_iff_eq, beq_eq_false_iff_ne, ne_eq, Int.not_lt, Int.not_le, Decidable.not_not] at hg32
      refine g_step_no (j := 3) (t := 32) rfl rfl rfl rfl rfl rfl rfl ?_
      refine g_step_no (j := 3) (t := 32) rfl rfl rfl rfl rfl rfl rfl ?_
      refine g_step_no (j := 3) (t := 32) rfl rfl rfl rfl rfl rfl rfl ?_
      refine g_step rfl (s_val (v_pick_t rfl rfl) rfl rfl ?_)
      refine g_step rfl (s_val (v_move rfl) rfl rfl ?_)
      refine g_step_no (j := 8) (t := 37) rfl rfl rfl rfl rfl rfl rfl ?_
      refine g_step_no (j := 8) (t := 37) rfl rfl rfl rfl rfl rfl rfl ?_
      refine g_step rfl (s_val (v_pick_t rfl rfl) rfl rfl ?_)
      refine g_step rfl (s_val (v_move rfl) rfl rfl ?_)
      refine g_step_no (j := 12) (t := 41) rfl rfl rfl rfl rfl rfl rfl ?_
      refine g_step_no (j := 12) (t := 41) rfl rfl rfl rfl rfl rfl rfl ?_
      refine g_step rfl (s_val (v_pick_t rfl rfl) rfl rfl ?_)
      refine g_step rfl (s_val (v_move rfl) rfl rfl ?_)
      refine g_step_no (j := 16) (t := 45) rfl rfl rfl rfl rfl rfl rfl ?_
      refine g_step_no (j := 16) (t := 45) rfl rfl rfl rfl rfl rfl rfl ?_
      refine g_step rfl (s_val (v_pick_t rfl rfl) rfl rfl ?_)
      refine g_step rfl (s_val (v_move rfl) rfl rfl ?_)
      refine g_step_no (j := 20) (t := 49) rfl rfl rfl rfl rfl rfl rfl ?_
      refine g_step_no (j := 20) (t := 49) rfl rfl rfl rfl rfl rfl rfl ?_
      refine g_step rfl (s_val (v_pick_t rfl rfl) rfl rfl ?_)
      refine g_step rfl (s_val (v_move rfl) rfl rfl ?_)
      refine g_step_yes (j := 24) (t := 53) rfl rfl rfl rfl (s_callp rfl rfl rfl (awake23_ok _) ?_)
      rintro _ rfl
      refine g_step rfl (s_val (v_pick_t rfl rfl) rfl rfl ?_)
      refine g_step rfl (s_val (v_assign rfl) rfl rfl ?_)
      refine g_nil ?_
      refine g_next hK5 ?_
      refine g_ret ?_
      refine g_then_ret ?_
      refine g_end1 (.inl rfl) Try.results7 (.tmp rfl) [] (ASub.refl _) (by first | exact hs_G4 | exact hs_G3) (fun p hp => by cases hp) ⟨rfl, ?_⟩
      rfl
    · try simp only [decide_eq_true_eq, decide_eq_false_iff_not, Bool.not_eq_true', Bool.not_eq_false', Bool.not_eq_eq_eq_not, Bool.not_true, Bool.not_false, Bool.and_eq_true, Bool.or_eq_true, Bool.or_eq_false_iff, beq_iff_eq, beq_eq_false_iff_ne, ne_eq, Int.not_lt, Int.not_le, Decidable.not_not] at hg32
      refine g_step_yes (j := 3) (t := 32) rfl rfl rfl rfl (s_val (by first | exact v_loadl_all ty37 rfl rfl rfl rfl rfl | exact v_loadl_part (cs := [_, _]) ty37 rfl rfl rfl rfl rfl rfl) rfl rfl ?_)
      refine g_step_yes (j := 3) (t := 32) rfl rfl rfl rfl (s_callp rfl rfl rfl (spValid_ok _ _) ?_)
      rintro _ rfl
      refine g_step_yes (j := 3) (t := 32) rfl rfl rfl rfl (s_val (v_not rfl) rfl rfl ?_)
      refine g_step rfl (s_val (v_pick_f rfl rfl) rfl rfl ?_)
      refine g_step rfl (s_val (v_move rfl) rfl rfl ?_)
      refine g_split 37 rfl (fun hg37 => ?_) (fun hg37 => ?_)
      · try simp only [decide_eq_true_eq, decide_eq_false_iff_not, Bool.not_eq_true', Bool.not_eq_false', Bool.not_eq_eq_eq_not, Bool.not_true, Bool.not_false, Bool.and_eq_true, Bool.or_eq_true, Bool.or_eq_false_iff, beq_iff_eq, beq_eq_false_iff_ne, ne_eq, Int.not_lt, Int.not_le, Decidable.not_not] at hg37
        refine g_step_no (j := 8) (t := 37) rfl rfl rfl rfl rfl rfl rfl ?_
        refine g_step_no (j := 8) (t := 37) rfl rfl rfl rfl rfl rfl rfl ?_
        refine g_step rfl (s_val (v_pick_t rfl rfl) rfl rfl ?_)
        refine g_step rfl (s_val (v_move rfl) rfl rfl ?_)
        refine g_step_no (j := 12) (t := 41) rfl rfl rfl rfl rfl rfl rfl ?_
        refine g_step_no (j := 12) (t := 41) rfl rfl rfl rfl rfl rfl rfl ?_
        refine g_step rfl (s_val (v_pick_t rfl rfl) rfl rfl ?_)
        refine g_step rfl (s_val (v_move rfl) rfl rfl ?_)
        refine g_step_no (j := 16) (t := 45) rfl rfl rfl rfl rfl rfl rfl ?_
        refine g_step_no (j := 16) (t := 45) rfl rfl rfl rfl rfl rfl rfl ?_
        refine g_step rfl (s_val (v_pick_t rfl rfl) rfl rfl ?_)
        refine g_step rfl (s_val (v_move rfl) rfl rfl ?_)
        refine g_step_no (j := 20) (t := 49) rfl rfl rfl rfl rfl rfl rfl ?_
        refine g_step_no (j := 20) (t := 49) rfl rfl rfl rfl rfl rfl rfl ?_
        refine g_step rfl (s_val (v_pick_t rfl rfl) rfl rfl ?_)
        refine g_step rfl (s_val (v_move rfl) rfl rfl ?_)
        refine g_step_yes (j := 24) (t := 53) rfl rfl rfl rfl (s_callp rfl rfl rfl (awake23_ok _) ?_)
        rintro _ rfl
        refine g_step rfl (s_val (v_pick_t rfl rfl) rfl rfl ?_)
        refine g_step rfl (s_val (v_assign rfl) rfl rfl ?_)
        refine g_nil ?_
        refine g_next hK5 ?_
        refine g_ret ?_
        refine g_then_ret ?_
        refine g_end1 (.inl rfl) Try.results7 (.tmp rfl) [] (ASub.refl _) (by first | exact hs_G4 | exact hs_G3) (fun p hp => by cases hp) ⟨rfl, ?_⟩
        rfl
      · try simp only [decide_eq_true_eq, decide_eq_false_iff_not, Bool.not_eq_true', Bool.not_eq_false', Bool.not_eq_eq_eq_not, Bool.not_true, Bool.not_false, Bool.and_eq_true, Bool.or_eq_true, Bool.or_eq_false_iff, beq_iff_eq, beq_eq_false_iff_ne, ne_eq, Int.not_lt, Int.not_le, Decidable.not_not] at hg37
        refine g_step_yes (j := 8) (t := 37) rfl rfl rfl rfl (s_val (v_move rfl) rfl rfl ?_)
        refine g_step_yes (j := 8) (t := 37) rfl rfl rfl rfl (s_val (v_lss rfl rfl) rfl rfl ?_)
        refine g_step rfl (s_val (v_pick_f rfl rfl) rfl rfl ?_)
        refine g_step rfl (s_val (v_move rfl) rfl rfl ?_)
        refine g_split 41 rfl (fun hg41 => ?_) (fun hg41 => ?_)
        · try simp only [decide_eq_true_eq, decide_eq_false_iff_not, Bool.not_eq_true', Bool.not_eq_false', Bool.not_eq_eq_eq_not, Bool.not_true, Bool.not_false, Bool.and_eq_true, Bool.or_eq_true, Bool.or_eq_false_iff, beq_iff_eq, beq_eq_false_iff_ne, ne_eq, Int.not_lt, Int.not_le, Decidable.not_not] at hg41
          refine g_step_no (j := 12) (t := 41) rfl rfl rfl rfl rfl rfl rfl ?_
          refine g_step_no (j := 12) (t := 41) rfl rfl rfl rfl rfl rfl rfl ?_
          refine g_step rfl (s_val (v_pick_t rfl rfl) rfl rfl ?_)
          refine g_step rfl (s_val (v_move rfl) rfl rfl ?_)
          refine g_step_no (j := 16) (t := 45) rfl rfl rfl rfl rfl rfl rfl ?_
          refine g_step_no (j := 16) (t := 45) rfl rfl rfl rfl rfl rfl rfl ?_
          refine g_step rfl (s_val (v_pick_t rfl rfl) rfl rfl ?_)
          refine g_step rfl (s_val (v_move rfl) rfl rfl ?_)
          refine g_step_no (j := 20) (t := 49) rfl rfl rfl rfl rfl rfl rfl ?_
          refine g_step_no (j := 20) (t := 49) rfl rfl rfl rfl rfl rfl rfl ?_
          refine g_step rfl (s_val (v_pick_t rfl rfl) rfl rfl ?_)
          refine g_step rfl (s_val (v_move rfl) rfl rfl ?_)
          refine g_step_yes (j := 24) (t := 53) rfl rfl rfl rfl (s_callp rfl rfl rfl (awake23_ok _) ?_)
          rintro _ rfl
          refine g_step rfl (s_val (v_pick_t rfl rfl) rfl rfl ?_)
          refine g_step rfl (s_val (v_assign rfl) rfl rfl ?_)
          refine g_nil ?_
          refine g_next hK5 ?_
          refine g_ret ?_
          refine g_then_ret ?_
          refine g_end1 (.inl rfl) Try.results7 (.tmp rfl) [] (ASub.refl _) (by first | exact hs_G4 | exact hs_G3) (fun p hp => by cases hp) ⟨rfl, ?_⟩
          rfl
        · try simp only [decide_eq_true_eq, decide_eq_false_iff_not, Bool.not_eq_true', Bool.not_eq_false', Bool.not_eq_eq_eq_not, Bool.not_true, Bool.not_false, Bool.and_eq_true, Bool.or_eq_true, Bool.or_eq_false_iff, beq_iff_eq, beq_eq_false_iff_ne, ne_eq, Int.not_lt, Int.not_le, Decidable.not_not] at hg41
          refine g_step_yes (j := 12) (t := 41) rfl rfl rfl rfl (s_val (v_move rfl) rfl rfl ?_)
          refine g_step_yes (j := 12) (t := 41) rfl rfl rfl rfl (s_val (v_lss rfl rfl) rfl rfl ?_)
          refine g_step rfl (s_val (v_pick_f rfl rfl) rfl rfl ?_)
          refine g_step rfl (s_val (v_move rfl) rfl rfl ?_)
          refine g_split 45 rfl (fun hg45 => ?_) (fun hg45 => ?_)
          · try simp only [decide_eq_true_eq, decide_eq_false_iff_not, Bool.not_eq_true', Bool.not_eq_false', Bool.not_eq_eq_eq_not, Bool.not_true, Bool.not_false, Bool.and_eq_true, Bool.or_eq_true, Bool.or_eq_false_iff, beq_iff_eq, beq_eq_false_iff_ne, ne_eq, Int.not_lt, Int.not_le, Decidable.not_not] at hg45
            refine g_step_no (j := 16) (t := 45) rfl rfl rfl rfl rfl rfl rfl ?_
            refine g_step_no (j := 16) (t := 45) rfl rfl rfl rfl rfl rfl rfl ?_
            refine g_step rfl (s_val (v_pick_t rfl rfl) rfl rfl ?_)
            refine g_step rfl (s_val (v_move rfl) rfl rfl ?_)
            refine g_step_no (j := 20) (t := 49) rfl rfl rfl rfl rfl rfl rfl ?_
            refine g_step_no (j := 20) (t := 49) rfl rfl rfl rfl rfl rfl rfl ?_
            refine g_step rfl (s_val (v_pick_t rfl rfl) rfl rfl ?_)
            refine g_step rfl (s_val (v_move rfl) rfl rfl ?_)
            refine g_step_yes (j := 24) (t := 53) rfl rfl rfl rfl (s_callp rfl rfl rfl (awake23_ok _) ?_)
            rintro _ rfl
            refine g_step rfl (s_val (v_pick_t rfl rfl) rfl rfl ?_)
            refine g_step rfl (s_val (v_assign rfl) rfl rfl ?_)
            refine g_nil ?_
            refine g_next hK5 ?_
            refine g_ret ?_
            refine g_then_ret ?_
            refine g_end1 (.inl rfl) Try.results7 (.tmp rfl) [] (ASub.refl _) (by first | exact hs_G4 | exact hs_G3) (fun p hp => by cases hp) ⟨rfl, ?_⟩
            rfl
          · try simp only [decide_eq_true_eq, decide_eq_false_iff_not, Bool.not_eq_true', Bool.not_eq_false', Bool.not_eq_eq_eq_not, Bool.not_true, Bool.not_false, Bool.and_eq_true, Bool.or_eq_true, Bool.or_eq_false_iff, beq_iff_eq, beq_eq_false_iff_ne, ne_eq, Int.not_lt, Int.not_le, Decidable.not_not] at hg45
            refine g_step_yes (j := 16) (t := 45) rfl rfl rfl rfl (s_val (v_move rfl) rfl rfl ?_)
            refine g_step_yes (j := 16) (t := 45) rfl rfl rfl rfl (s_val (v_gtr rfl rfl) rfl rfl ?_)
            refine g_step rfl (s_val (v_pick_f rfl rfl) rfl rfl ?_)
            refine g_step rfl (s_val (v_move rfl) rfl rfl ?_)
            refine g_split 49 rfl (fun hg49 => ?_) (fun hg49 => ?_)
            · try simp only [decide_eq_true_eq, decide_eq_false_iff_not, Bool.not_eq_true', Bool.not_eq_false', Bool.not_eq_eq_eq_not, Bool.not_true, Bool.not_false, Bool.and_eq_true, Bool.or_eq_true, Bool.or_eq_false_iff, beq_iff_eq, beq_eq_false_iff_ne, ne_eq, Int.not_lt, Int.not_le, Decidable.not_not] at hg49
              refine g_step_no (j := 20) (t := 49) rfl rfl rfl rfl rfl rfl rfl ?_
              refine g_step_no (j := 20) (t := 49) rfl rfl rfl rfl rfl rfl rfl ?_
              refine g_step rfl (s_val (v_pick_t rfl rfl) rfl rfl ?_)
              refine g_step rfl (s_val (v_move rfl) rfl rfl ?_)
              refine g_step_yes (j := 24) (t := 53) rfl rfl rfl rfl (s_callp rfl rfl rfl (awake23_ok _) ?_)
              rintro _ rfl
              refine g_step rfl (s_val (v_pick_t rfl rfl) rfl rfl ?_)
              refine g_step rfl (s_val (v_assign rfl) rfl rfl ?_)
              refine g_nil ?_
              refine g_next hK5 ?_
              refine g_ret ?_
              refine g_then_ret ?_
              refine g_end1 (.inl rfl) Try.results7 (.tmp rfl) [] (ASub.refl _) (by first | exact hs_G4 | exact hs_G3) (fun p hp => by cases hp) ⟨rfl, ?_⟩
              rfl
            · try simp only [decide_eq_true_eq, decide_eq_false_iff_not, Bool.not_eq_true', Bool.not_eq_false', Bool.not_eq_eq_eq_not, Bool.not_true, Bool.not_false, Bool.and_eq_true, Bool.or_eq_true, Bool.or_eq_false_iff, beq_iff_eq, beq_eq_false_iff_ne, ne_eq, Int.not_lt, Int.not_le, Decidable.not_not] at hg49
              refine g_step_yes (j := 20) (t := 49) rfl rfl rfl rfl (s_val (v_move rfl) rfl rfl ?_)
              refine g_step_yes (j := 20) (t := 49) rfl rfl rfl rfl (s_val (v_gtr rfl rfl) rfl rfl ?_)
              refine g_step rfl (s_val (v_pick_f rfl rfl) rfl rfl ?_)
              refine g_step rfl (s_val (v_move rfl) rfl rfl ?_)
              refine g_split 53 rfl (fun hg53 => ?_) (fun hg53 => ?_)
              · try simp only [decide_eq_true_eq, decide_eq_false_iff_not, Bool.not_eq_true', Bool.not_eq_false', Bool.not_eq_eq_eq_not, Bool.not_true, Bool.not_false, Bool.and_eq_true, Bool.or_eq_true, Bool.or_eq_false_iff, beq_iff_eq, beq_eq_false_iff_ne, ne_eq, Int.not_lt, Int.not_le, Decidable.not_not] at hg53
                refine g_step_yes (j := 24) (t := 53) rfl rfl rfl rfl (s_callp rfl rfl rfl (awake23_ok _) ?_)
                rintro _ rfl
                refine g_step rfl (s_val (v_pick_t rfl rfl) rfl rfl ?_)
                refine g_step rfl (s_val (v_assign rfl) rfl rfl ?_)
                refine g_nil ?_
                refine g_next hK5 ?_
                refine g_ret ?_
                refine g_then_ret ?_
                refine g_end1 (.inl rfl) Try.results7 (.tmp rfl) [] (ASub.refl _) (by first | exact hs_G4 | exact hs_G3) (fun p hp => by cases hp) ⟨rfl, ?_⟩
                rfl
              · exfalso; (try simp only [decide_eq_true_eq, decide_eq_false_iff_not, Bool.not_eq_true', Bool.not_eq_false', Bool.not_eq_eq_eq_not, Bool.not_true, Bool.not_false, Bool.and_eq_true, Bool.or_eq_true, Bool.or_eq_false_iff, beq_iff_eq, beq_eq_false_iff_ne, ne_eq, Int.not_lt, Int.not_le, Decidable.not_not] at hg53); rcases hL with hL | hL <;> simp only [Bool.and_eq_false_iff, decide_eq_false_iff_not] at hL <;> rcases hL with hL | hL <;> first | omega | (simp_all; done)
  · try simp only [decide_eq_true_eq, decide_eq_false_iff_not, Bool.not_eq_true', Bool.not_eq_false', Bool.not_eq_eq_eq_not, Bool.not_true, Bool.not_false, Bool.and_eq_true, Bool.or_eq_true, Bool.or_eq_false_iff, beq_iff_eq, beq_eq_false_iff_ne, ne_eq, Int.not_lt, Int.not_le, Decidable.not_not] at hg22
    have hx : learnOk [] 1 inc b = true := hg22
    refine g_step_yes (j := 5) (t := 22) rfl rfl rfl rfl (s_val (v_move rfl) rfl rfl ?_)
    refine g_step_yes (j := 5) (t := 22) rfl rfl rfl rfl (s_val (v_move rfl) rfl rfl ?_)
    refine g_step_yes (j := 5) (t := 22) rfl rfl rfl rfl (s_val (by first | exact v_loadl_all ty37 rfl rfl rfl rfl rfl | exact v_loadl_part (cs := [_, _]) ty37 rfl rfl rfl rfl rfl rfl) rfl rfl ?_)
    refine g_step_yes (j := 5) (t := 22) rfl rfl rfl rfl (s_call rfl rfl rfl (peersLearn_ok p2 r2 [] _ hq_G3_p2 hq_G3_r2 0 other a) (fun b hb => .inr (by subst hb; exact hw_r2)) ?_)
    rintro n4 r4 effs4 hn4 hdom4 ⟨rfl, rfl⟩ hok4
    generalize hE_G4 : setAll G3 [(r2, bookRow (learn [] 0 other a))] = G4
    have hs_G4 : H.sub G4 := by rw [← hE_G4]; exact sub_set' hs_G3 hz0_r2
    have hq_G4_r2 : G4 r2 = some (bookRow (learn [] 0 other a)) := by rw [← hE_G4]; exact AHeap.get_set _ _ _
    have hq_G4_p : G4 p = some (.box (.agg [.map r])) := by rw [← hE_G4]; exact (AHeap.get_set_ne _ _ hne_p_r2).trans hq_G3_p
    have hq_G4_r : G4 r = some (bookRow (learn [] 1 inc b)) := by rw [← hE_G4]; exact (AHeap.get_set_ne _ _ hne_r_r2).trans hq_G3_r
    have hq_G4_p2 : G4 p2 = some (.box (.agg [.map r2])) := by rw [← hE_G4]; exact (AHeap.get_set_ne _ _ hpr_p2).trans hq_G3_p2
    refine g_step_yes (j := 5) (t := 22) rfl rfl rfl rfl (s_val (v_not rfl) rfl rfl ?_)
    refine g_step rfl (s_val (v_pick_f rfl rfl) rfl rfl ?_)
    refine g_nil ?_
    refine g_next hK4 ?_
    refine g_cond rfl (fun hc28 => ?_) (fun hc28 => ?_)
    · try simp only [decide_eq_true_eq, decide_eq_false_iff_not, Bool.not_eq_true', Bool.not_eq_false', Bool.not_eq_eq_eq_not, Bool.not_true, Bool.not_false, Bool.and_eq_true, Bool.or_eq_true, Bool.or_eq_false_iff, beq_iff_eq, beq_eq_false_iff_ne, ne_eq, Int.not_lt, Int.not_le, Decidable.not_not] at hc28
      have hL : (decide (0 ≤ inc ∧ inc ≤ 281474976710655) && spValid b) = false ∨ (decide (0 ≤ other ∧ other ≤ 281474976710655) && spValid a) = false := .inr (by rw [← learnOk_new 0 other a (by omega)]; exact hc28)
      refine g_seq (fun K6 hK6 => ?_)
      refine g_region ?_
      refine g_step rfl (s_val (by first | exact v_loadl_all ty37 rfl rfl rfl rfl rfl | exact v_loadl_part (cs := [_, _]) ty37 rfl rfl rfl rfl rfl rfl) rfl rfl ?_)
      refine g_step rfl (s_callp rfl rfl rfl (spValid_ok _ _) ?_)
      rintro _ rfl
      refine g_step rfl (s_val (v_not rfl) rfl rfl ?_)
      refine g_step rfl (s_val (v_move rfl) rfl rfl ?_)
      refine g_split 32 rfl (fun hg32 => ?_) (fun hg32 => ?_)
      · try simp only [decide_eq_true_eq, decide_eq_false_iff_not, Bool.not_eq_true', Bool.not_eq_false', Bool.not_eq_eq_eq_not, Bool.not_true, Bool.not_false, Bool.and_eq_true, Bool.or_eq_true, Bool.or_eq_false_iff, beq_iff_eq, beq_eq_false_iff_ne, ne_eq, Int.not_lt, Int.not_le, Decidable.not_not] at hg32
        refine g_step_no (j := 3) (t := 32) rfl rfl rfl rfl rfl rfl rfl ?_
        refine g_step_no (j := 3) (t := 32) rfl rfl rfl rfl rfl rfl rfl ?_
        refine g_step_no (j := 3) (t := 32) rfl rfl rfl rfl rfl rfl rfl ?_
        refine g_step rfl (s_val (v_pick_t rfl rfl) rfl rfl ?_)
        refine g_step rfl (s_val (v_move rfl) rfl rfl ?_)
        refine g_step_no (j := 8) (t := 37) rfl rfl rfl rfl rfl rfl rfl ?_
        refine g_step_no (j := 8) (t := 37) rfl rfl rfl rfl rfl rfl rfl ?_
        refine g_step rfl (s_val (v_pick_t rfl rfl) rfl rfl ?_)
        refine g_step rfl (s_val (v_move rfl) rfl rfl ?_)
        refine g_step_no (j := 12) (t := 41) rfl rfl rfl rfl rfl rfl rfl ?_
        refine g_step_no (j := 12) (t := 41) rfl rfl rfl rfl rfl rfl rfl ?_
        refine g_step rfl (s_val (v_pick_t rfl rfl) rfl rfl ?_)
        refine g_step rfl (s_val (v_move rfl) rfl rfl ?_)
        refine g_step_no (j := 16) (t := 45) rfl rfl rfl rfl rfl rfl rfl ?_
        refine g_step_no (j := 16) (t := 45) rfl rfl rfl rfl rfl rfl rfl ?_
        refine g_step rfl (s_val (v_pick_t rfl rfl) rfl rfl ?_)
        refine g_step rfl (s_val (v_move rfl) rfl rfl ?_)
        refine g_step_no (j := 20) (t := 49) rfl rfl rfl rfl rfl rfl rfl ?_
        refine g_step_no (j := 20) (t := 49) rfl rfl rfl rfl rfl rfl rfl ?_
        refine g_step rfl (s_val (v_pick_t rfl rfl) rfl rfl ?_)
        refine g_step rfl (s_val (v_move rfl) rfl rfl ?_)
        refine g_step_yes (j := 24) (t := 53) rfl rfl rfl rfl (s_callp rfl rfl rfl (awake23_ok _) ?_)
        rintro _ rfl
        refine g_step rfl (s_val (v_pick_t rfl rfl) rfl rfl ?_)
        refine g_step rfl (s_val (v_assign rfl) rfl rfl ?_)
        refine g_nil ?_
        refine g_next hK6 ?_
        refine g_ret ?_
        refine g_then_ret ?_
        refine g_end1 (.inl rfl) Try.results7 (.tmp rfl) [] (ASub.refl _) (by first | exact hs_G4 | exact hs_G3) (fun p hp => by cases hp) ⟨rfl, ?_⟩
        rfl
      · try simp only [decide_eq_true_eq, decide_eq_false_iff_not, Bool.not_eq_true', Bool.not_eq_false', Bool.not_eq_eq_eq_not, Bool.not_true, Bool.not_false, Bool.and_eq_true, Bool.or_eq_true, Bool.or_eq_false_iff, beq_iff_eq, beq_eq_false_iff_ne, ne_eq, Int.not_lt, Int.not_le, Decidable.not_not] at hg32
        refine g_step_yes (j := 3) (t := 32) rfl rfl rfl rfl (s_val (by first | exact v_loadl_all ty37 rfl rfl rfl rfl rfl | exact v_loadl_part (cs := [_, _]) ty37 rfl rfl rfl rfl rfl rfl) rfl rfl ?_)
        refine g_step_yes (j := 3) (t := 32) rfl rfl rfl rfl (s_callp rfl rfl rfl (spValid_ok _ _) ?_)
        rintro _ rfl
        refine g_step_yes (j := 3) (t := 32) rfl rfl rfl rfl (s_val (v_not rfl) rfl rfl ?_)
        refine g_step rfl (s_val (v_pick_f rfl rfl) rfl rfl ?_)
        refine g_step rfl (s_val (v_move rfl) rfl rfl ?_)
        refine g_split 37 rfl (fun hg37 => ?_) (fun hg37 => ?_)
        · try simp only [decide_eq_true_eq, decide_eq_false_iff_not, Bool.not_eq_true', Bool.not_eq_false', Bool.not_eq_eq_eq_not, Bool.not_true, Bool.not_false, Bool.and_eq_true, Bool.or_eq_true, Bool.or_eq_false_iff, beq_iff_eq, beq_eq_false_iff_ne, ne_eq, Int.not_lt, Int.not_le, Decidable.not_not] at hg37
          refine g_step_no (j := 8) (t := 37) rfl rfl rfl rfl rfl rfl rfl ?_
          refine g_step_no (j := 8) (t := 37) rfl rfl rfl rfl rfl rfl rfl ?_
          refine g_step rfl (s_val (v_pick_t rfl rfl) rfl rfl ?_)
          refine g_step rfl (s_val (v_move rfl) rfl rfl ?_)
          refine g_step_no (j := 12) (t := 41) rfl rfl rfl rfl rfl rfl rfl ?_
          refine g_step_no (j := 12) (t := 41) rfl rfl rfl rfl rfl rfl rfl ?_
          refine g_step rfl (s_val (v_pick_t rfl rfl) rfl rfl ?_)
          refine g_step rfl (s_val (v_move rfl) rfl rfl ?_)
          refine g_step_no (j := 16) (t := 45) rfl rfl rfl rfl rfl rfl rfl ?_
          refine g_step_no (j := 16) (t := 45) rfl rfl rfl rfl rfl rfl rfl ?_
          refine g_step rfl (s_val (v_pick_t rfl rfl) rfl rfl ?_)
          refine g_step rfl (s_val (v_move rfl) rfl rfl ?_)
          refine g_step_no (j := 20) (t := 49) rfl rfl rfl rfl rfl rfl rfl ?_
          refine g_step_no (j := 20) (t := 49) rfl rfl rfl rfl rfl rfl rfl ?_
          refine g_step rfl (s_val (v_pick_t rfl rfl) rfl rfl ?_)
          refine g_step rfl (s_val (v_move rfl) rfl rfl ?_)
          refine g_step_yes (j := 24) (t := 53) rfl rfl rfl rfl (s_callp rfl rfl rfl (awake23_ok _) ?_)
          rintro _ rfl
          refine g_step rfl (s_val (v_pick_t rfl rfl) rfl rfl ?_)
          refine g_step rfl (s_val (v_assign rfl) rfl rfl ?_)
          refine g_nil ?_
          refine g_next hK6 ?_
          refine g_ret ?_
          refine g_then_ret ?_
          refine g_end1 (.inl rfl) Try.results7 (.tmp rfl) [] (ASub.refl _) (by first | exact hs_G4 | exact hs_G3) (fun p hp => by cases hp) ⟨rfl, ?_⟩
          rfl
        · try simp only [decide_eq_true_eq, decide_eq_false_iff_not, Bool.not_eq_true', Bool.not_eq_false', Bool.not_eq_eq_eq_not, Bool.not_true, Bool.not_false, Bool.and_eq_true, Bool.or_eq_true, Bool.or_eq_false_iff, beq_iff_eq, beq_eq_false_iff_ne, ne_eq, Int.not_lt, Int.not_le, Decidable.not_not] at hg37
          refine g_step_yes (j := 8) (t := 37) rfl rfl rfl rfl (s_val (v_move rfl) rfl rfl ?_)
          refine g_step_yes (j := 8) (t := 37) rfl rfl rfl rfl (s_val (v_lss rfl rfl) rfl rfl ?_)
          refine g_step rfl (s_val (v_pick_f rfl rfl) rfl rfl ?_)
          refine g_step rfl (s_val (v_move rfl) rfl rfl ?_)
          refine g_split 41 rfl (fun hg41 => ?_) (fun hg41 => ?_)
          · try simp only [decide_eq_true_eq, decide_eq_false_iff_not, Bool.not_eq_true', Bool.not_eq_false', Bool.not_eq_eq_eq_not, Bool.not_true, Bool.not_false, Bool.and_eq_true, Bool.or_eq_true, Bool.or_eq_false_iff, beq_iff_eq, beq_eq_false_iff_ne, ne_eq, Int.not_lt, Int.not_le, Decidable.not_not] at hg41
            refine g_step_no (j := 12) (t := 41) rfl rfl rfl rfl rfl rfl rfl ?_
            refine g_step_no (j := 12) (t := 41) rfl rfl rfl rfl rfl rfl rfl ?_
            refine g_step rfl (s_val (v_pick_t rfl rfl) rfl rfl ?_)
            refine g_step rfl (s_val (v_move rfl) rfl rfl ?_)
            refine g_step_no (j := 16) (t := 45) rfl rfl rfl rfl rfl rfl rfl ?_
            refine g_step_no (j := 16) (t := 45) rfl rfl rfl rfl rfl rfl rfl ?_
            refine g_step rfl (s_val (v_pick_t rfl rfl) rfl rfl ?_)
            refine g_step rfl (s_val (v_move rfl) rfl rfl ?_)
            refine g_step_no (j := 20) (t := 49) rfl rfl rfl rfl rfl rfl rfl ?_
            refine g_step_no (j := 20) (t := 49) rfl rfl rfl rfl rfl rfl rfl ?_
            refine g_step rfl (s_val (v_pick_t rfl rfl) rfl rfl ?_)
            refine g_step rfl (s_val (v_move rfl) rfl rfl ?_)
            refine g_step_yes (j := 24) (t := 53) rfl rfl rfl rfl (s_callp rfl rfl rfl (awake23_ok _) ?_)
            rintro _ rfl
            refine g_step rfl (s_val (v_pick_t rfl rfl) rfl rfl ?_)
            refine g_step rfl (s_val (v_assign rfl) rfl rfl ?_)
            refine g_nil ?_
            refine g_next hK6 ?_
            refine g_ret ?_
            refine g_then_ret ?_
            refine g_end1 (.inl rfl) Try.results7 (.tmp rfl) [] (ASub.refl _) (by first | exact hs_G4 | exact hs_G3) (fun p hp => by cases hp) ⟨rfl, ?_⟩
            rfl
          · try simp only [decide_eq_true_eq, decide_eq_false_iff_not, Bool.not_eq_true', Bool.not_eq_false', Bool.not_eq_eq_eq_not, Bool.not_true, Bool.not_false, Bool.and_eq_true, Bool.or_eq_true, Bool.or_eq_false_iff, beq_iff_eq, beq_eq_false_iff_ne, ne_eq, Int.not_lt, Int.not_le, Decidable.not_not] at hg41
            refine g_step_yes (j := 12) (t := 41) rfl rfl rfl rfl (s_val (v_move rfl) rfl rfl ?_)
            refine g_step_yes (j := 12) (t := 41) rfl rfl rfl rfl (s_val (v_lss rfl rfl) rfl rfl ?_)
            refine g_step rfl (s_val (v_pick_f rfl rfl) rfl rfl ?_)
            refine g_step rfl (s_val (v_move rfl) rfl rfl ?_)
            refine g_split 45 rfl (fun hg45 => ?_) (fun hg45 => ?_)
            · try simp only [decide_eq_true_eq, decide_eq_false_iff_not, Bool.not_eq_true', Bool.not_eq_false', Bool.not_eq_eq_eq_not, Bool.not_true, Bool.not_false, Bool.and_eq_true, Bool.or_eq_true, Bool.or_eq_false_iff, beq_iff_eq, beq_eq_false_iff_ne, ne_eq, Int.not_lt, Int.not_le, Decidable.not_not] at hg45
              refine g_step_no (j := 16) (t := 45) rfl rfl rfl rfl rfl rfl rfl ?_
              refine g_step_no (j := 16) (t := 45) rfl rfl rfl rfl rfl rfl rfl ?_
              refine g_step rfl (s_val (v_pick_t rfl rfl) rfl rfl ?_)
              refine g_step rfl (s_val (v_move rfl) rfl rfl ?_)
              refine g_step_no (j := 20) (t := 49) rfl rfl rfl rfl rfl rfl rfl ?_
              refine g_step_no (j := 20) (t := 49) rfl rfl rfl rfl rfl rfl rfl ?_
              refine g_step rfl (s_val (v_pick_t rfl rfl) rfl rfl ?_)
              refine g_step rfl (s_val (v_move rfl) rfl rfl ?_)
              refine g_step_yes (j := 24) (t := 53) rfl rfl rfl rfl (s_callp rfl rfl rfl (awake23_ok _) ?_)
              rintro _ rfl
              refine g_step rfl (s_val (v_pick_t rfl rfl) rfl rfl ?_)
              refine g_step rfl (s_val (v_assign rfl) rfl rfl ?_)
              refine g_nil ?_
              refine g_next hK6 ?_
              refine g_ret ?_
              refine g_then_ret ?_
              refine g_end1 (.inl rfl) Try.results7 (.tmp rfl) [] (ASub.refl _) (by first | exact hs_G4 | exact hs_G3) (fun p hp => by cases hp) ⟨rfl, ?_⟩
              rfl
            · try simp only [decide_eq_true_eq, decide_eq_false_iff_not, Bool.not_eq_true', Bool.not_eq_false', Bool.not_eq_eq_eq_not, Bool.not_true, Bool.not_false, Bool.and_eq_true, Bool.or_eq_true, Bool.or_eq_false_iff, beq_iff_eq, beq_eq_false_iff_ne, ne_eq, Int.not_lt, Int.not_le, Decidable.not_not] at hg45
              refine g_step_yes (j := 16) (t := 45) rfl rfl rfl rfl (s_val (v_move rfl) rfl rfl ?_)
              refine g_step_yes (j := 16) (t := 45) rfl rfl rfl rfl (s_val (v_gtr rfl rfl) rfl rfl ?_)
              refine g_step rfl (s_val (v_pick_f rfl rfl) rfl rfl ?_)
              refine g_step rfl (s_val (v_move rfl) rfl rfl ?_)
              refine g_split 49 rfl (fun hg49 => ?_) (fun hg49 => ?_)
              · try simp only [decide_eq_true_eq, decide_eq_false_iff_not, Bool.not_eq_true', Bool.not_eq_false', Bool.not_eq_eq_eq_not, Bool.not_true, Bool.not_false, Bool.and_eq_true, Bool.or_eq_true, Bool.or_eq_false_iff, beq_iff_eq, beq_eq_false_iff_ne, ne_eq, Int.not_lt, Int.not_le, Decidable.not_not] at hg49
                refine g_step_no (j := 20) (t := 49) rfl rfl rfl rfl rfl rfl rfl ?_
                refine g_step_no (j := 20) (t := 49) rfl rfl rfl rfl rfl rfl rfl ?_
                refine g_step rfl (s_val (v_pick_t rfl rfl) rfl rfl ?_)
                refine g_step rfl (s_val (v_move rfl) rfl rfl ?_)
                refine g_step_yes (j := 24) (t := 53) rfl rfl rfl rfl (s_callp rfl rfl rfl (awake23_ok _) ?_)
                rintro _ rfl
                refine g_step rfl (s_val (v_pick_t rfl rfl) rfl rfl ?_)
                refine g_step rfl (s_val (v_assign rfl) rfl rfl ?_)
                refine g_nil ?_
                refine g_next hK6 ?_
                refine g_ret ?_
                refine g_then_ret ?_
                refine g_end1 (.inl rfl) Try.results7 (.tmp rfl) [] (ASub.refl _) (by first | exact hs_G4 | exact hs_G3) (fun p hp => by cases hp) ⟨rfl, ?_⟩
                rfl
              · try simp only [decide_eq_true_eq, decide_eq_false_iff_not, Bool.not_eq_true', Bool.not_eq_false', Bool.not_eq_eq_eq_not, Bool.not_true, Bool.not_false, Bool.and_eq_true, Bool.or_eq_true, Bool.or_eq_false_iff, beq_iff_eq, beq_eq_false_iff_ne, ne_eq, Int.not_lt, Int.not_le, Decidable.not_not] at hg49
                refine g_step_yes (j := 20) (t := 49) rfl rfl rfl rfl (s_val (v_move rfl) rfl rfl ?_)
                refine g_step_yes (j := 20) (t := 49) rfl rfl rfl rfl (s_val (v_gtr rfl rfl) rfl rfl ?_)
                refine g_step rfl (s_val (v_pick_f rfl rfl) rfl rfl ?_)
                refine g_step rfl (s_val (v_move rfl) rfl rfl ?_)
                refine g_split 53 rfl (fun hg53 => ?_) (fun hg53 => ?_)
                · try simp only [decide_eq_true_eq, decide_eq_false_iff_not, Bool.not_eq_true', Bool.not_eq_false', Bool.not_eq_eq_eq_not, Bool.not_true, Bool.not_false, Bool.and_eq_true, Bool.or_eq_true, Bool.or_eq_false_iff, beq_iff_eq, beq_eq_false_iff_ne, ne_eq, Int.not_lt, Int.not_le, Decidable.not_not] at hg53
                  refine g_step_yes (j := 24) (t := 53) rfl rfl rfl rfl (s_callp rfl rfl rfl (awake23_ok _) ?_)
                  rintro _ rfl
                  refine g_step rfl (s_val (v_pick_t rfl rfl) rfl rfl ?_)
                  refine g_step rfl (s_val (v_assign rfl) rfl rfl ?_)
                  refine g_nil ?_
                  refine g_next hK6 ?_
                  refine g_ret ?_
                  refine g_then_ret ?_
                  refine g_end1 (.inl rfl) Try.results7 (.tmp rfl) [] (ASub.refl _) (by first | exact hs_G4 | exact hs_G3) (fun p hp => by cases hp) ⟨rfl, ?_⟩
                  rfl
                · exfalso; (try simp only [decide_eq_true_eq, decide_eq_false_iff_not, Bool.not_eq_true', Bool.not_eq_false', Bool.not_eq_eq_eq_not, Bool.not_true, Bool.not_false, Bool.and_eq_true, Bool.or_eq_true, Bool.or_eq_false_iff, beq_iff_eq, beq_eq_false_iff_ne, ne_eq, Int.not_lt, Int.not_le, Decidable.not_not] at hg53); rcases hL with hL | hL <;> simp only [Bool.and_eq_false_iff, decide_eq_false_iff_not] at hL <;> rcases hL with hL | hL <;> first | omega | (simp_all; done)
    · try simp only [decide_eq_true_eq, decide_eq_false_iff_not, Bool.not_eq_true', Bool.not_eq_false', Bool.not_eq_eq_eq_not, Bool.not_true, Bool.not_false, Bool.and_eq_true, Bool.or_eq_true, Bool.or_eq_false_iff, beq_iff_eq, beq_eq_false_iff_ne, ne_eq, Int.not_lt, Int.not_le, Decidable.not_not] at hc28
      have hy : learnOk [] 0 other a = true := hc28
      refine g_skip ?_
      refine g_next hK3 ?_
      refine g_seq (fun K7 hK7 => ?_)
      refine g_region ?_
      refine g_step rfl (s_val (v_move rfl) rfl rfl ?_)
      refine g_step rfl (s_val (by first | exact v_loadl_all ty37 rfl rfl rfl rfl rfl | exact v_loadl_part (cs := [_, _]) ty37 rfl rfl rfl rfl rfl rfl) rfl rfl ?_)
      refine g_step rfl (s_callp rfl rfl rfl (peersChoose_ok p r (learn [] 1 inc b) _ hq_G4_p hq_G4_r a 1) ?_)
      rintro _ rfl
      rw [choose_new hx]
      refine g_step rfl (s_val (v_move rfl) rfl rfl ?_)
      refine g_step rfl (s_val (v_extract rfl rfl) rfl rfl ?_)
      refine g_step rfl (s_val (v_extract rfl rfl) rfl rfl ?_)
      refine g_step rfl (s_val (v_assign rfl) rfl rfl ?_)
      refine g_step rfl (s_val (v_assign rfl) rfl rfl ?_)
      refine g_nil ?_
      refine g_next hK7 ?_
      refine g_seq (fun K8 hK8 => ?_)
      refine g_region ?_
      refine g_step rfl (s_val (v_move rfl) rfl rfl ?_)
      refine g_step rfl (s_val (by first | exact v_loadl_all ty37 rfl rfl rfl rfl rfl | exact v_loadl_part (cs := [_, _]) ty37 rfl rfl rfl rfl rfl rfl) rfl rfl ?_)
      refine g_step rfl (s_callp rfl rfl rfl (peersChoose_ok p2 r2 (learn [] 0 other a) _ hq_G4_p2 hq_G4_r2 b 0) ?_)
      rintro _ rfl
      rw [choose_new hy, spBest_comm b a]
      have hB : (spBest a b = 0) ∨ (spHas a (spBest a b) = true ∧ spHas b (spBest a b) = true ∧ 1 ≤ spBest a b) := (spBest_cases a b).elim (fun h => .inl h.1) (fun h => .inr ⟨h.1, h.2.1, h.2.2.1⟩)
      refine g_step rfl (s_val (v_move rfl) rfl rfl ?_)
      refine g_step rfl (s_val (v_extract rfl rfl) rfl rfl ?_)
      refine g_step rfl (s_val (v_extract rfl rfl) rfl rfl ?_)
      refine g_step rfl (s_val (v_assign rfl) rfl rfl ?_)
      refine g_step rfl (s_val (v_assign rfl) rfl rfl ?_)
      refine g_nil ?_
      refine g_next hK8 ?_
      refine g_seq (fun K9 hK9 => ?_)
      refine g_seq (fun K10 hK10 => ?_)
      refine g_region ?_
      refine g_step rfl (s_val (v_move rfl) rfl rfl ?_)
      refine g_step rfl (s_val (v_move rfl) rfl rfl ?_)
      refine g_step rfl (s_val (v_neq rfl rfl) rfl rfl ?_)
      refine g_step rfl (s_val (v_move rfl) rfl rfl ?_)
      refine g_split 71 rfl (fun hg71 => ?_) (fun hg71 => ?_)
      · exfalso; (try simp only [decide_eq_true_eq, decide_eq_false_iff_not, Bool.not_eq_true', Bool.not_eq_false', Bool.not_eq_eq_eq_not, Bool.not_true, Bool.not_false, Bool.and_eq_true, Bool.or_eq_true, Bool.or_eq_false_iff, beq_iff_eq, beq_eq_false_iff_ne, ne_eq, Int.not_lt, Int.not_le, Decidable.not_not] at hg71); first | done | simp at hg71
      · try simp only [decide_eq_true_eq, decide_eq_false_iff_not, Bool.not_eq_true', Bool.not_eq_false', Bool.not_eq_eq_eq_not, Bool.not_true, Bool.not_false, Bool.and_eq_true, Bool.or_eq_true, Bool.or_eq_false_iff, beq_iff_eq, beq_eq_false_iff_ne, ne_eq, Int.not_lt, Int.not_le, Decidable.not_not] at hg71
        refine g_step_yes (j := 3) (t := 71) rfl rfl rfl rfl (s_val (v_move rfl) rfl rfl ?_)
        refine g_step_yes (j := 3) (t := 71) rfl rfl rfl rfl (s_val (v_move rfl) rfl rfl ?_)
        refine g_step_yes (j := 3) (t := 71) rfl rfl rfl rfl (s_val (v_neq rfl rfl) rfl rfl ?_)
        refine g_step rfl (s_val (v_pick_f rfl rfl) rfl rfl ?_)
        refine g_nil ?_
        refine g_next hK10 ?_
        refine g_cond rfl (fun hc75 => ?_) (fun hc75 => ?_)
        · exfalso; (try simp only [decide_eq_true_eq, decide_eq_false_iff_not, Bool.not_eq_true', Bool.not_eq_false', Bool.not_eq_eq_eq_not, Bool.not_true, Bool.not_false, Bool.and_eq_true, Bool.or_eq_true, Bool.or_eq_false_iff, beq_iff_eq, beq_eq_false_iff_ne, ne_eq, Int.not_lt, Int.not_le, Decidable.not_not] at hc75); first | done | simp at hc75
        · try simp only [decide_eq_true_eq, decide_eq_false_iff_not, Bool.not_eq_true', Bool.not_eq_false', Bool.not_eq_eq_eq_not, Bool.not_true, Bool.not_false, Bool.and_eq_true, Bool.or_eq_true, Bool.or_eq_false_iff, beq_iff_eq, beq_eq_false_iff_ne, ne_eq, Int.not_lt, Int.not_le, Decidable.not_not] at hc75
          refine g_skip ?_
          refine g_next hK9 ?_
          refine g_seq (fun K11 hK11 => ?_)
          refine g_region ?_
          refine g_step rfl (s_val (v_move rfl) rfl rfl ?_)
          refine g_step rfl (s_val (v_eql rfl rfl) rfl rfl ?_)
          refine g_step rfl (s_val (v_move rfl) rfl rfl ?_)
          refine g_step rfl (s_val (v_gtr rfl rfl) rfl rfl ?_)
          refine g_step rfl (s_val (v_bool_eql ty4 rfl rfl) rfl rfl ?_)
          refine g_step rfl (s_val (v_move rfl) rfl rfl ?_)
          refine g_split 81 rfl (fun hg81 => ?_) (fun hg81 => ?_)
          · try simp only [decide_eq_true_eq, decide_eq_false_iff_not, Bool.not_eq_true', Bool.not_eq_false', Bool.not_eq_eq_eq_not, Bool.not_true, Bool.not_false, Bool.and_eq_true, Bool.or_eq_true, Bool.or_eq_false_iff, beq_iff_eq, beq_eq_false_iff_ne, ne_eq, Int.not_lt, Int.not_le, Decidable.not_not] at hg81
            refine g_step_yes (j := 5) (t := 81) rfl rfl rfl rfl (s_val (v_move rfl) rfl rfl ?_)
            refine g_step_yes (j := 5) (t := 81) rfl rfl rfl rfl (s_val (v_eql rfl rfl) rfl rfl ?_)
            refine g_step_yes (j := 5) (t := 81) rfl rfl rfl rfl (s_val (v_move rfl) rfl rfl ?_)
            refine g_split 84 rfl (fun hg84 => ?_) (fun hg84 => ?_)
            · try simp only [decide_eq_true_eq, decide_eq_false_iff_not, Bool.not_eq_true', Bool.not_eq_false', Bool.not_eq_eq_eq_not, Bool.not_true, Bool.not_false, Bool.and_eq_true, Bool.or_eq_true, Bool.or_eq_false_iff, beq_iff_eq, beq_eq_false_iff_ne, ne_eq, Int.not_lt, Int.not_le, Decidable.not_not] at hg84
              refine g_step_no (j := 8) (t := 84) rfl rfl rfl rfl rfl rfl rfl ?_
              refine g_step_no (j := 8) (t := 84) rfl rfl rfl rfl rfl rfl rfl ?_
              refine g_step_no (j := 8) (t := 84) rfl rfl rfl rfl rfl rfl rfl ?_
              refine g_step_no (j := 8) (t := 84) rfl rfl rfl rfl rfl rfl rfl ?_
              refine g_step_und (j := 12) (t := 88) rfl rfl rfl rfl rfl rfl ?_
              refine g_step_und (j := 12) (t := 88) rfl rfl rfl rfl rfl rfl ?_
              refine g_step_und (j := 12) (t := 88) rfl rfl rfl rfl rfl rfl ?_
              refine g_step_no (j := 8) (t := 84) rfl rfl rfl rfl rfl rfl rfl ?_
              refine g_step_yes (j := 5) (t := 81) rfl rfl rfl rfl (s_val (v_pick_t rfl rfl) rfl rfl ?_)
              refine g_step rfl (s_val (v_pick_t rfl rfl) rfl rfl ?_)
              refine g_step rfl (s_val (v_move rfl) rfl rfl ?_)
              refine g_step_yes (j := 19) (t := 95) rfl rfl rfl rfl (s_callp rfl rfl rfl (awake23_ok _) ?_)
              rintro _ rfl
              refine g_step rfl (s_val (v_pick_t rfl rfl) rfl rfl ?_)
              refine g_step rfl (s_val (v_assign rfl) rfl rfl ?_)
              refine g_nil ?_
              refine g_next hK11 ?_
              refine g_ret ?_
              refine g_end1 (.inl rfl) Try.results7 (.tmp rfl) [] (ASub.refl _) hs_G4 (fun p hp => by cases hp) ⟨rfl, ?_⟩
              rfl
            · try simp only [decide_eq_true_eq, decide_eq_false_iff_not, Bool.not_eq_true', Bool.not_eq_false', Bool.not_eq_eq_eq_not, Bool.not_true, Bool.not_false, Bool.and_eq_true, Bool.or_eq_true, Bool.or_eq_false_iff, beq_iff_eq, beq_eq_false_iff_ne, ne_eq, Int.not_lt, Int.not_le, Decidable.not_not] at hg84
              refine g_step_yes (j := 8) (t := 84) rfl rfl rfl rfl (s_val (by first | exact v_loadl_all ty37 rfl rfl rfl rfl rfl | exact v_loadl_part (cs := [_, _]) ty37 rfl rfl rfl rfl rfl rfl) rfl rfl ?_)
              refine g_step_yes (j := 8) (t := 84) rfl rfl rfl rfl (s_val (v_move rfl) rfl rfl ?_)
              refine g_step_yes (j := 8) (t := 84) rfl rfl rfl rfl (s_callp rfl rfl rfl (spHas_ok _ _ _) ?_)
              rintro _ rfl
              refine g_step_yes (j := 8) (t := 84) rfl rfl rfl rfl (s_val (v_move rfl) rfl rfl ?_)
              refine g_split 88 rfl (fun hg88 => ?_) (fun hg88 => ?_)
              · try simp only [decide_eq_true_eq, decide_eq_false_iff_not, Bool.not_eq_true', Bool.not_eq_false', Bool.not_eq_eq_eq_not, Bool.not_true, Bool.not_false, Bool.and_eq_true, Bool.or_eq_true, Bool.or_eq_false_iff, beq_iff_eq, beq_eq_false_iff_ne, ne_eq, Int.not_lt, Int.not_le, Decidable.not_not] at hg88
                refine g_step_yes (j := 12) (t := 88) rfl rfl rfl rfl (s_val (by first | exact v_loadl_all ty37 rfl rfl rfl rfl rfl | exact v_loadl_part (cs := [_, _]) ty37 rfl rfl rfl rfl rfl rfl) rfl rfl ?_)
                refine g_step_yes (j := 12) (t := 88) rfl rfl rfl rfl (s_val (v_move rfl) rfl rfl ?_)
                refine g_step_yes (j := 12) (t := 88) rfl rfl rfl rfl (s_callp rfl rfl rfl (spHas_ok _ _ _) ?_)
                rintro _ rfl
                refine g_step_yes (j := 8) (t := 84) rfl rfl rfl rfl (s_val (v_pick_t rfl rfl) rfl rfl ?_)
                refine g_step_yes (j := 5) (t := 81) rfl rfl rfl rfl (s_val (v_pick_f rfl rfl) rfl rfl ?_)
                refine g_step rfl (s_val (v_pick_t rfl rfl) rfl rfl ?_)
                refine g_step rfl (s_val (v_move rfl) rfl rfl ?_)
                refine g_split 95 rfl (fun hg95 => ?_) (fun hg95 => ?_)
                · try simp only [decide_eq_true_eq, decide_eq_false_iff_not, Bool.not_eq_true', Bool.not_eq_false', Bool.not_eq_eq_eq_not, Bool.not_true, Bool.not_false, Bool.and_eq_true, Bool.or_eq_true, Bool.or_eq_false_iff, beq_iff_eq, beq_eq_false_iff_ne, ne_eq, Int.not_lt, Int.not_le, Decidable.not_not] at hg95
                  refine g_step_yes (j := 19) (t := 95) rfl rfl rfl rfl (s_callp rfl rfl rfl (awake23_ok _) ?_)
                  rintro _ rfl
                  refine g_step rfl (s_val (v_pick_t rfl rfl) rfl rfl ?_)
                  refine g_step rfl (s_val (v_assign rfl) rfl rfl ?_)
                  refine g_nil ?_
                  refine g_next hK11 ?_
                  refine g_ret ?_
                  refine g_end1 (.inl rfl) Try.results7 (.tmp rfl) [] (ASub.refl _) hs_G4 (fun p hp => by cases hp) ⟨rfl, ?_⟩
                  rfl
                · exfalso; (try simp only [decide_eq_true_eq, decide_eq_false_iff_not, Bool.not_eq_true', Bool.not_eq_false', Bool.not_eq_eq_eq_not, Bool.not_true, Bool.not_false, Bool.and_eq_true, Bool.or_eq_true, Bool.or_eq_false_iff, beq_iff_eq, beq_eq_false_iff_ne, ne_eq, Int.not_lt, Int.not_le, Decidable.not_not] at hg95); exact hB.elim (fun h1 => hg84 h1) (fun h => by rw [h.2.1] at hg95; cases hg95)
              · exfalso; (try simp only [decide_eq_true_eq, decide_eq_false_iff_not, Bool.not_eq_true', Bool.not_eq_false', Bool.not_eq_eq_eq_not, Bool.not_true, Bool.not_false, Bool.and_eq_true, Bool.or_eq_true, Bool.or_eq_false_iff, beq_iff_eq, beq_eq_false_iff_ne, ne_eq, Int.not_lt, Int.not_le, Decidable.not_not] at hg88); exact hB.elim (fun h1 => hg84 h1) (fun h => by rw [h.1] at hg88; cases hg88)
          · exfalso; (try simp only [decide_eq_true_eq, decide_eq_false_iff_not, Bool.not_eq_true', Bool.not_eq_false', Bool.not_eq_eq_eq_not, Bool.not_true, Bool.not_false, Bool.and_eq_true, Bool.or_eq_true, Bool.or_eq_false_iff, beq_iff_eq, beq_eq_false_iff_ne, ne_eq, Int.not_lt, Int.not_le, Decidable.not_not] at hg81); exact hB.elim (fun h1 => by simp [h1] at hg81) (fun h => by rw [if_neg (by omega)] at hg81; simp at hg81; omega)

end Go.Proofs.Ytmnngdbcfdnefaa

import Derived.Test.YtngffembdhcijaaRec2
set_option maxHeartbeats 8000000
set_option linter.unusedSimpArgs false
set_option linter.unusedVariables false
set_option maxRecDepth 100000
namespace Go.Proofs.Ytngffembdhcijaa
open Go Go.Proofs.Ytngffembdhcijaa.AM
theorem names_ok (G : AHeap) : PCalls Try.prog 56 [] G (fun v => v = .agg (stNames.map .str)) := by
  refine LCalls.intro 2 fi56 rfl Try.ntmps56 rfl (fun _ h => h.elim) (fun H hH w0 hw0 => ?_)
  refine g_seq (fun K0 hK0 => ?_)
  refine g_region ?_
  refine g_step rfl (s_alloc (av := (.agg [(.str ⟨#[]⟩), (.str ⟨#[]⟩), (.str ⟨#[]⟩), (.str ⟨#[]⟩)])) ty68 rfl rfl rfl rfl ?_)
  refine g_nil ?_
  refine g_next hK0 ?_
  refine g_seq (fun K1 hK1 => ?_)
  refine g_region ?_
  refine g_step rfl (s_val (v_build_arr (vs := [(0, _), (1, _), (2, _), (3, _)]) (zs := [(.str ⟨#[]⟩), (.str ⟨#[]⟩), (.str ⟨#[]⟩), (.str ⟨#[]⟩)]) (cells := [_, _, _, _]) ty68 ty9 rfl rfl rfl) rfl rfl ?_)
  refine g_step rfl (s_store_all ty68 rfl rfl rfl rfl rfl rfl ?_)
  refine g_nil ?_
  refine g_next hK1 ?_
  refine g_ret ?_
  refine g_end1 (.inl rfl) Try.results56 (.agg ty68 rfl rfl rfl rfl rfl) [] (ASub.refl _) (AHeap.sub_refl _) (fun p hp => by cases hp) ⟨rfl, ?_⟩
  rfl

theorem name_ok (n : Int) (G : AHeap) : PCalls Try.prog 16 [.int .i64 n] G (fun v => v = .str (stName n)) := by
  refine LCalls.intro 12 fi16 rfl Try.ntmps16 rfl (fun _ h => h.elim) (fun H hH w0 hw0 => ?_)
  refine g_seq (fun K0 hK0 => ?_)
  refine g_region ?_
  refine g_step rfl (s_val (v_assign rfl) rfl rfl ?_)
  refine g_nil ?_
  refine g_next hK0 ?_
  refine g_seq (fun K1 hK1 => ?_)
  refine g_seq (fun K2 hK2 => ?_)
  refine g_region ?_
  refine g_step rfl (s_val (v_move rfl) rfl rfl ?_)
  refine g_step rfl (s_val (v_lss rfl rfl) rfl rfl ?_)
  refine g_step rfl (s_val (v_move rfl) rfl rfl ?_)
  refine g_split 5 rfl (fun hg5 => ?_) (fun hg5 => ?_)
  · try simp only [decide_eq_true_eq, decide_eq_false_iff_not, Bool.not_eq_true', Bool.not_eq_false', Bool.not_eq_eq_eq_not, Bool.not_true, Bool.not_false, Bool.and_eq_true, Bool.or_eq_true, Bool.or_eq_false_iff, beq_iff_eq, beq_eq_false_iff_ne, ne_eq, Int.not_lt, Int.not_le, Decidable.not_not] at hg5
    refine g_step_no (j := 2) (t := 5) rfl rfl rfl rfl rfl rfl rfl ?_
    refine g_step_no (j := 2) (t := 5) rfl rfl rfl rfl rfl rfl rfl ?_
    refine g_step rfl (s_val (v_pick_t rfl rfl) rfl rfl ?_)
    refine g_nil ?_
    refine g_next hK2 ?_
    refine g_cond rfl (fun _ => ?_) (fun h => by cases h)
    refine g_seq (fun K3 hK3 => ?_)
    refine g_region ?_
    refine g_step rfl (s_val (v_assign rfl) rfl rfl ?_)
    refine g_nil ?_
    refine g_next hK3 ?_
    refine g_ret ?_
    refine g_then_ret ?_
    refine g_end1 (.inl rfl) Try.results16 (.tmp rfl) [] (ASub.refl _) (AHeap.sub_refl _) (fun p hp => by cases hp) ⟨rfl, ?_⟩
    first | (rw [stName, if_pos (by omega)]; done) | (rw [stName, if_pos (by omega)]; rfl)
  · try simp only [decide_eq_true_eq, decide_eq_false_iff_not, Bool.not_eq_true', Bool.not_eq_false', Bool.not_eq_eq_eq_not, Bool.not_true, Bool.not_false, Bool.and_eq_true, Bool.or_eq_true, Bool.or_eq_false_iff, beq_iff_eq, beq_eq_false_iff_ne, ne_eq, Int.not_lt, Int.not_le, Decidable.not_not] at hg5
    refine g_step_yes (j := 2) (t := 5) rfl rfl rfl rfl (s_val (v_move rfl) rfl rfl ?_)
    refine g_step_yes (j := 2) (t := 5) rfl rfl rfl rfl (s_val (v_gtr rfl rfl) rfl rfl ?_)
    refine g_step rfl (s_val (v_pick_f rfl rfl) rfl rfl ?_)
    refine g_nil ?_
    refine g_next hK2 ?_
    refine g_cond rfl (fun hc8 => ?_) (fun hc8 => ?_)
    · try simp only [decide_eq_true_eq, decide_eq_false_iff_not, Bool.not_eq_true', Bool.not_eq_false', Bool.not_eq_eq_eq_not, Bool.not_true, Bool.not_false, Bool.and_eq_true, Bool.or_eq_true, Bool.or_eq_false_iff, beq_iff_eq, beq_eq_false_iff_ne, ne_eq, Int.not_lt, Int.not_le, Decidable.not_not] at hc8
      refine g_seq (fun K4 hK4 => ?_)
      refine g_region ?_
      refine g_step rfl (s_val (v_assign rfl) rfl rfl ?_)
      refine g_nil ?_
      refine g_next hK4 ?_
      refine g_ret ?_
      refine g_then_ret ?_
      refine g_end1 (.inl rfl) Try.results16 (.tmp rfl) [] (ASub.refl _) (AHeap.sub_refl _) (fun p hp => by cases hp) ⟨rfl, ?_⟩
      first | (rw [stName, if_pos (by omega)]; done) | (rw [stName, if_pos (by omega)]; rfl)
    · try simp only [decide_eq_true_eq, decide_eq_false_iff_not, Bool.not_eq_true', Bool.not_eq_false', Bool.not_eq_eq_eq_not, Bool.not_true, Bool.not_false, Bool.and_eq_true, Bool.or_eq_true, Bool.or_eq_false_iff, beq_iff_eq, beq_eq_false_iff_ne, ne_eq, Int.not_lt, Int.not_le, Decidable.not_not] at hc8
      refine g_skip ?_
      refine g_next hK1 ?_
      refine g_seq (fun K5 hK5 => ?_)
      refine g_region ?_
      refine g_step rfl (s_callp rfl rfl rfl (names_ok _) ?_)
      rintro _ rfl
      refine g_step rfl (s_val (v_move rfl) rfl rfl ?_)
      refine g_step rfl (s_val (v_index_arr (i := n.toNat) ty68 ty9 rfl rfl rfl rfl (by first | rfl | exact (rfl : (0 : Int) = ((0 : Nat) : Int)) | exact (Int.toNat_of_nonneg (by omega)).symm) (by omega) (map_get (stName_get (by omega) (by omega)))) rfl rfl ?_)
      refine g_step rfl (s_val (v_assign rfl) rfl rfl ?_)
      refine g_nil ?_
      refine g_next hK5 ?_
      refine g_ret ?_
      refine g_end1 (.inl rfl) Try.results16 (.tmp rfl) [] (ASub.refl _) (AHeap.sub_refl _) (fun p hp => by cases hp) ⟨rfl, ?_⟩
      rfl

theorem status_ok (s : ByteArray) (G : AHeap) : PCalls Try.prog 17 [.str s] G (fun v => v = .tup [.int .i64 (if stOf s < 0 then 0 else stOf s), .bool (decide (0 ≤ stOf s))]) := by
  refine LCalls.intro 16 fi17 rfl Try.ntmps17 rfl (fun _ h => h.elim) (fun H hH w0 hw0 => ?_)
  refine g_seq (fun K0 hK0 => ?_)
  refine g_region ?_
  refine g_step rfl (s_val (v_assign rfl) rfl rfl ?_)
  refine g_step rfl (s_val (v_assign rfl) rfl rfl ?_)
  refine g_nil ?_
  refine g_next hK0 ?_
  refine g_seq (fun K1 hK1 => ?_)
  refine g_seq (fun K2 hK2 => ?_)
  refine g_region ?_
  refine g_step rfl (s_callp rfl rfl rfl (names_ok _) ?_)
  rintro _ rfl
  refine g_step rfl (s_val (v_move rfl) rfl rfl ?_)
  refine g_nil ?_
  refine g_next hK2 ?_
  refine g_block ?_
  refine g_keep [0, 6, 7] [] [] rfl rfl rfl rfl ?_
  refine g_loop (fun n env L B G => ∃ (k : Nat) , k ≤ 4 ∧ n = 4 - k ∧ env = [(0, .str s), (6, .agg (stNames.map .str)), (7, .int .i64 (k : Int))] ∧ L = [] ∧ B = [] ∧ H = G ∧ nameIdx (stNames.drop k) s (k : Int) = stOf s) (4) ⟨0, Nat.zero_le _, rfl, rfl, rfl, rfl, rfl, rfl⟩ (fun n env L B G hI => ?_)
  obtain ⟨k, hk, rfl, rfl, rfl, rfl, rfl, hc⟩ := hI
  refine g_seq (fun K3 hK3 => ?_)
  refine g_region ?_
  refine g_step rfl (s_val (v_lss rfl rfl) rfl rfl ?_)
  refine g_nil ?_
  refine g_next hK3 ?_
  refine g_seq (fun K4 hK4 => ?_)
  refine g_cond rfl (fun hc8 => ?_) (fun hc8 => ?_)
  · try simp only [decide_eq_true_eq, decide_eq_false_iff_not, Bool.not_eq_true', Bool.not_eq_false', Bool.not_eq_eq_eq_not, Bool.not_true, Bool.not_false, Bool.and_eq_true, Bool.or_eq_true, Bool.or_eq_false_iff, beq_iff_eq, beq_eq_false_iff_ne, ne_eq, Int.not_lt, Int.not_le, Decidable.not_not] at hc8
    obtain ⟨x, hx⟩ := get_some (l := stNames) (k := k) (by show k < 4; omega)
    refine g_skip ?_
    refine g_next hK4 ?_
    refine g_seq (fun K5 hK5 => ?_)
    refine g_block ?_
    refine g_seq (fun K6 hK6 => ?_)
    refine g_region ?_
    refine g_step rfl (s_val (v_move rfl) rfl rfl ?_)
    refine g_step rfl (s_val (v_index_arr (i := k) ty68 ty9 rfl rfl rfl rfl (by first | rfl | exact (rfl : (0 : Int) = ((0 : Nat) : Int)) | exact (Int.toNat_of_nonneg (by omega)).symm) (by omega) (map_get hx)) rfl rfl ?_)
    refine g_step rfl (s_val (v_assign rfl) rfl rfl ?_)
    refine g_step rfl (s_val (v_assign rfl) rfl rfl ?_)
    refine g_nil ?_
    refine g_next hK6 ?_
    refine g_seq (fun K7 hK7 => ?_)
    refine g_region ?_
    refine g_step rfl (s_val (v_move rfl) rfl rfl ?_)
    refine g_step rfl (s_val (v_move rfl) rfl rfl ?_)
    refine g_step rfl (s_val (v_seq rfl rfl) rfl rfl ?_)
    refine g_nil ?_
    refine g_next hK7 ?_
    refine g_cond rfl (fun hc13 => ?_) (fun hc13 => ?_)
    · try simp only [decide_eq_true_eq, decide_eq_false_iff_not, Bool.not_eq_true', Bool.not_eq_false', Bool.not_eq_eq_eq_not, Bool.not_true, Bool.not_false, Bool.and_eq_true, Bool.or_eq_true, Bool.or_eq_false_iff, beq_iff_eq, beq_eq_false_iff_ne, ne_eq, Int.not_lt, Int.not_le, Decidable.not_not] at hc13
      refine g_seq (fun K8 hK8 => ?_)
      refine g_region ?_
      refine g_step rfl (s_val (v_move rfl) rfl rfl ?_)
      refine g_step rfl (s_val (v_assign rfl) rfl rfl ?_)
      refine g_step rfl (s_val (v_assign rfl) rfl rfl ?_)
      refine g_nil ?_
      refine g_next hK8 ?_
      refine g_ret ?_
      refine g_block_ret ?_
      refine g_then_ret ?_
      refine g_then_ret ?_
      refine g_block_ret ?_
      refine g_then_ret ?_
      refine g_end2 (.inl rfl) Try.results17 (.tmp rfl) (.tmp rfl) [] (ASub.refl _) (AHeap.sub_refl _) (fun p hp => by cases hp) ⟨rfl, ?_⟩
      first | (rw [drop_cons hx, nameIdx, if_pos hc13] at hc; rw [← hc]; simp; omega; done) | (rw [drop_cons hx, nameIdx, if_pos hc13] at hc; rw [← hc]; simp; omega; rfl)
    · try simp only [decide_eq_true_eq, decide_eq_false_iff_not, Bool.not_eq_true', Bool.not_eq_false', Bool.not_eq_eq_eq_not, Bool.not_true, Bool.not_false, Bool.and_eq_true, Bool.or_eq_true, Bool.or_eq_false_iff, beq_iff_eq, beq_eq_false_iff_ne, ne_eq, Int.not_lt, Int.not_le, Decidable.not_not] at hc13
      refine g_skip ?_
      refine g_block_normal ?_
      refine g_next hK5 ?_
      refine g_region ?_
      refine g_step rfl (s_val (v_add rfl rfl (by omega)) rfl rfl ?_)
      refine g_step rfl (s_val (v_move rfl) rfl rfl ?_)
      refine g_nil ?_
      refine g_keep [0, 6, 7] [] [] rfl rfl rfl rfl ?_
      exact g_round _ (by omega) ⟨k + 1, by omega, rfl, rfl, rfl, rfl, rfl, by rw [drop_cons hx, nameIdx, if_neg hc13] at hc; exact hc⟩
  · try simp only [decide_eq_true_eq, decide_eq_false_iff_not, Bool.not_eq_true', Bool.not_eq_false', Bool.not_eq_eq_eq_not, Bool.not_true, Bool.not_false, Bool.and_eq_true, Bool.or_eq_true, Bool.or_eq_false_iff, beq_iff_eq, beq_eq_false_iff_ne, ne_eq, Int.not_lt, Int.not_le, Decidable.not_not] at hc8
    obtain rfl : k = 4 := by omega
    refine g_exit ?_
    refine g_then_exit ?_
    refine g_then_exit ?_
    refine g_block_same ?_
    refine g_next hK1 ?_
    refine g_seq (fun K9 hK9 => ?_)
    refine g_region ?_
    refine g_step rfl (s_val (v_assign rfl) rfl rfl ?_)
    refine g_step rfl (s_val (v_assign rfl) rfl rfl ?_)
    refine g_nil ?_
    refine g_next hK9 ?_
    refine g_ret ?_
    refine g_end2 (.inl rfl) Try.results17 (.tmp rfl) (.tmp rfl) [] (ASub.refl _) (AHeap.sub_refl _) (fun p hp => by cases hp) ⟨rfl, ?_⟩
    first | (rw [← hc]; rfl; done) | (rw [← hc]; rfl; rfl)

theorem awake08_ok (G : AHeap) : PCalls Try.prog 15 [] G (fun v => v = .bool true) := by
  refine LCalls.intro 56 fi15 rfl Try.ntmps15 rfl (fun _ h => h.elim) (fun H hH w0 hw0 => ?_)
  refine g_seq (fun K0 hK0 => ?_)
  refine g_region ?_
  refine g_step rfl (s_val (v_assign rfl) rfl rfl ?_)
  refine g_nil ?_
  refine g_next hK0 ?_
  refine g_seq (fun K1 hK1 => ?_)
  refine g_region ?_
  refine g_step rfl (s_val (v_sub (b := (encFd ⟨40, []⟩)) (v_build (vs := [(0, _)]) (zs := [(.int .i64 0), .nil0]) (cells := [_, _]) ty51 pl51 rfl rfl rfl) (ASub.of_wk rfl)) rfl rfl ?_)
  refine g_step rfl (s_lit ty30 ty51 rfl rfl rfl rfl rfl rfl rfl ?_)
  refine g_step rfl (s_val (v_sub (b := (encR ⟨0, 0, 0, ⟨0, 0⟩, false, [⟨40, []⟩]⟩)) (v_build (vs := [(5, _)]) (zs := [(.int .i64 0), (.int .i64 0), (.int .i64 0), (.int .i64 0), (.int .i64 0), (.bool false), .nil0]) (cells := [_, _, _, _, _, _, _]) ty32 pl32 rfl rfl rfl) (ASub.of_wk rfl)) rfl rfl ?_)
  refine g_step rfl (s_callp rfl rfl rfl (bare_ok ⟨0, 0, 0, ⟨0, 0⟩, false, [⟨40, []⟩]⟩ _ ⟨by simp, by simp [bsize]⟩) ?_)
  rintro _ rfl
  refine g_step rfl (s_alloc (av := (.agg [(.int .i64 0), (.int .i64 0), (.int .i64 0), (.int .i64 0), (.int .i64 0), (.bool false), .nil0])) ty32 rfl rfl rfl rfl ?_)
  refine g_step rfl (s_store_all ty32 rfl rfl rfl rfl rfl rfl ?_)
  refine g_nil ?_
  refine g_next hK1 ?_
  refine g_seq (fun K2 hK2 => ?_)
  refine g_region ?_
  refine g_step rfl (s_val (v_sub (b := (encR ⟨3, 0, 0, ⟨0, 0⟩, false, []⟩)) (v_build (vs := [(0, _)]) (zs := [(.int .i64 0), (.int .i64 0), (.int .i64 0), (.int .i64 0), (.int .i64 0), (.bool false), .nil0]) (cells := [_, _, _, _, _, _, _]) ty32 pl32 rfl rfl rfl) (ASub.of_wk rfl)) rfl rfl ?_)
  refine g_step rfl (s_val (v_sub (b := (encR ⟨7, 0, 0, ⟨0, 0⟩, false, []⟩)) (v_build (vs := [(0, _)]) (zs := [(.int .i64 0), (.int .i64 0), (.int .i64 0), (.int .i64 0), (.int .i64 0), (.bool false), .nil0]) (cells := [_, _, _, _, _, _, _]) ty32 pl32 rfl rfl rfl) (ASub.of_wk rfl)) rfl rfl ?_)
  refine g_step rfl (s_lit ty34 ty32 rfl rfl rfl rfl rfl rfl rfl ?_)
  refine g_step rfl (s_val (v_sub (b := (encR ⟨5, 0, 0, ⟨0, 0⟩, false, []⟩)) (v_build (vs := [(0, _)]) (zs := [(.int .i64 0), (.int .i64 0), (.int .i64 0), (.int .i64 0), (.int .i64 0), (.bool false), .nil0]) (cells := [_, _, _, _, _, _, _]) ty32 pl32 rfl rfl rfl) (ASub.of_wk rfl)) rfl rfl ?_)
  refine g_step rfl (s_callp rfl rfl rfl (put_ok [(⟨3, 0, 0, ⟨0, 0⟩, false, []⟩ : Rc), ⟨7, 0, 0, ⟨0, 0⟩, false, []⟩] ⟨5, 0, 0, ⟨0, 0⟩, false, []⟩ _ _ rfl (by simp) (by intro x hx; simp at hx; rcases hx with rfl | rfl <;> exact ⟨by simp, by simp [bsize]⟩) ⟨by simp, by simp [bsize]⟩) ?_)
  rintro _ rfl
  rw [show rput [(⟨3, 0, 0, ⟨0, 0⟩, false, []⟩ : Rc), ⟨7, 0, 0, ⟨0, 0⟩, false, []⟩] ⟨5, 0, 0, ⟨0, 0⟩, false, []⟩ = [(⟨3, 0, 0, ⟨0, 0⟩, false, []⟩ : Rc), ⟨5, 0, 0, ⟨0, 0⟩, false, []⟩, ⟨7, 0, 0, ⟨0, 0⟩, false, []⟩] from by decide]
  refine g_step rfl (s_val (v_assign rfl) rfl rfl ?_)
  refine g_nil ?_
  refine g_next hK2 ?_
  refine g_seq (fun K3 hK3 => ?_)
  refine g_region ?_
  refine g_step rfl (s_fieldAddr ty32 fo32_4 ty4 rfl rfl ?_)
  refine g_step rfl (s_val (v_loadl ty4 rfl rfl rfl rfl) rfl rfl ?_)
  refine g_step rfl (s_val (v_move rfl) rfl rfl ?_)
  refine g_split 14 rfl (fun hg14 => ?_) (fun hg14 => ?_)
  · try simp only [decide_eq_true_eq, decide_eq_false_iff_not, Bool.not_eq_true', Bool.not_eq_false', Bool.not_eq_eq_eq_not, Bool.not_true, Bool.not_false, Bool.and_eq_true, Bool.or_eq_true, Bool.or_eq_false_iff, beq_iff_eq, beq_eq_false_iff_ne, ne_eq, Int.not_lt, Int.not_le, Decidable.not_not] at hg14
    refine g_step_yes (j := 2) (t := 14) rfl rfl rfl rfl (s_fieldAddr ty32 fo32_5 ty30 rfl rfl ?_)
    refine g_step_yes (j := 2) (t := 14) rfl rfl rfl rfl (s_val (v_loadl ty30 rfl rfl rfl rfl) rfl rfl ?_)
    refine g_step_yes (j := 2) (t := 14) rfl rfl rfl rfl (s_val (v_len ty30 rfl (by first | rfl | assumption) (by first | exact List.length_map .. | rfl)) rfl rfl ?_)
    refine g_step_yes (j := 2) (t := 14) rfl rfl rfl rfl (s_val (v_eql rfl rfl) rfl rfl ?_)
    refine g_step rfl (s_val (v_pick_t rfl rfl) rfl rfl ?_)
    refine g_step rfl (s_val (v_move rfl) rfl rfl ?_)
    refine g_split 20 rfl (fun hg20 => ?_) (fun hg20 => ?_)
    · try simp only [decide_eq_true_eq, decide_eq_false_iff_not, Bool.not_eq_true', Bool.not_eq_false', Bool.not_eq_eq_eq_not, Bool.not_true, Bool.not_false, Bool.and_eq_true, Bool.or_eq_true, Bool.or_eq_false_iff, beq_iff_eq, beq_eq_false_iff_ne, ne_eq, Int.not_lt, Int.not_le, Decidable.not_not] at hg20
      refine g_step_yes (j := 8) (t := 20) rfl rfl rfl rfl (s_val (v_sub (b := (encR rzero)) (v_build (vs := []) (zs := [(.int .i64 0), (.int .i64 0), (.int .i64 0), (.int .i64 0), (.int .i64 0), (.bool false), .nil0]) (cells := [_, _, _, _, _, _, _]) ty32 pl32 rfl rfl rfl) (ASub.of_wk rfl)) rfl rfl ?_)
      refine g_step_yes (j := 8) (t := 20) rfl rfl rfl rfl (s_callp rfl rfl rfl (bare_ok rzero _ ⟨by simp [rzero], by simp [rzero, bsize]⟩) ?_)
      rintro _ rfl
      refine g_step_yes (j := 8) (t := 20) rfl rfl rfl rfl (s_val (v_field ty32 fo32_4 ty4 rfl rfl rfl) rfl rfl ?_)
      refine g_step_yes (j := 8) (t := 20) rfl rfl rfl rfl (s_val (v_not rfl) rfl rfl ?_)
      refine g_step rfl (s_val (v_pick_t rfl rfl) rfl rfl ?_)
      refine g_step rfl (s_val (v_move rfl) rfl rfl ?_)
      refine g_split 26 rfl (fun hg26 => ?_) (fun hg26 => ?_)
      · try simp only [decide_eq_true_eq, decide_eq_false_iff_not, Bool.not_eq_true', Bool.not_eq_false', Bool.not_eq_eq_eq_not, Bool.not_true, Bool.not_false, Bool.and_eq_true, Bool.or_eq_true, Bool.or_eq_false_iff, beq_iff_eq, beq_eq_false_iff_ne, ne_eq, Int.not_lt, Int.not_le, Decidable.not_not] at hg26
        refine g_step_yes (j := 14) (t := 26) rfl rfl rfl rfl (s_val (v_move rfl) rfl rfl ?_)
        refine g_step_yes (j := 14) (t := 26) rfl rfl rfl rfl (s_val (v_len ty34 rfl (by first | rfl | assumption) (by first | exact List.length_map .. | rfl)) rfl rfl ?_)
        refine g_step_yes (j := 14) (t := 26) rfl rfl rfl rfl (s_val (v_eql rfl rfl) rfl rfl ?_)
        refine g_step rfl (s_val (v_pick_t rfl rfl) rfl rfl ?_)
        refine g_step rfl (s_val (v_move rfl) rfl rfl ?_)
        refine g_split 31 rfl (fun hg31 => ?_) (fun hg31 => ?_)
        · try simp only [decide_eq_true_eq, decide_eq_false_iff_not, Bool.not_eq_true', Bool.not_eq_false', Bool.not_eq_eq_eq_not, Bool.not_true, Bool.not_false, Bool.and_eq_true, Bool.or_eq_true, Bool.or_eq_false_iff, beq_iff_eq, beq_eq_false_iff_ne, ne_eq, Int.not_lt, Int.not_le, Decidable.not_not] at hg31
          refine g_step_yes (j := 19) (t := 31) rfl rfl rfl rfl (s_val (v_move rfl) rfl rfl ?_)
          refine g_step_yes (j := 19) (t := 31) rfl rfl rfl rfl (s_val (v_indexAddr ty34 ty32 rfl rfl (by first | rfl | assumption) (by first | rfl | exact (rfl : (0 : Int) = ((0 : Nat) : Int)) | exact (Int.toNat_of_nonneg (by omega)).symm) (by first | assumption | exact map_get (by assumption) | rfl) rfl) rfl rfl ?_)
          refine g_step_yes (j := 19) (t := 31) rfl rfl rfl rfl (s_val (by first | exact v_fieldAddr ty32 fo32_0 ty3 rfl | exact v_fieldAddr_box ty32 fo32_0 ty3 rfl) rfl rfl ?_)
          refine g_step_yes (j := 19) (t := 31) rfl rfl rfl rfl (s_val (by first | exact v_load ty3 rfl rfl (by first | rfl | assumption) (by first | assumption | exact map_get (by assumption) | rfl) rfl | exact v_load_box ty3 rfl rfl (by assumption) rfl) rfl rfl ?_)
          refine g_step_yes (j := 19) (t := 31) rfl rfl rfl rfl (s_val (v_eql rfl rfl) rfl rfl ?_)
          refine g_step rfl (s_val (v_pick_t rfl rfl) rfl rfl ?_)
          refine g_step rfl (s_val (v_move rfl) rfl rfl ?_)
          refine g_split 38 rfl (fun hg38 => ?_) (fun hg38 => ?_)
          · try simp only [decide_eq_true_eq, decide_eq_false_iff_not, Bool.not_eq_true', Bool.not_eq_false', Bool.not_eq_eq_eq_not, Bool.not_true, Bool.not_false, Bool.and_eq_true, Bool.or_eq_true, Bool.or_eq_false_iff, beq_iff_eq, beq_eq_false_iff_ne, ne_eq, Int.not_lt, Int.not_le, Decidable.not_not] at hg38
            refine g_step_yes (j := 26) (t := 38) rfl rfl rfl rfl (s_val (v_move rfl) rfl rfl ?_)
            refine g_step_yes (j := 26) (t := 38) rfl rfl rfl rfl (s_val (v_indexAddr ty34 ty32 rfl rfl (by first | rfl | assumption) (by first | rfl | exact (rfl : (0 : Int) = ((0 : Nat) : Int)) | exact (Int.toNat_of_nonneg (by omega)).symm) (by first | assumption | exact map_get (by assumption) | rfl) rfl) rfl rfl ?_)
            refine g_step_yes (j := 26) (t := 38) rfl rfl rfl rfl (s_val (by first | exact v_fieldAddr ty32 fo32_0 ty3 rfl | exact v_fieldAddr_box ty32 fo32_0 ty3 rfl) rfl rfl ?_)
            refine g_step_yes (j := 26) (t := 38) rfl rfl rfl rfl (s_val (by first | exact v_load ty3 rfl rfl (by first | rfl | assumption) (by first | assumption | exact map_get (by assumption) | rfl) rfl | exact v_load_box ty3 rfl rfl (by assumption) rfl) rfl rfl ?_)
            refine g_step_yes (j := 26) (t := 38) rfl rfl rfl rfl (s_val (v_eql rfl rfl) rfl rfl ?_)
            refine g_step rfl (s_val (v_pick_t rfl rfl) rfl rfl ?_)
            refine g_step rfl (s_val (v_move rfl) rfl rfl ?_)
            refine g_split 45 rfl (fun hg45 => ?_) (fun hg45 => ?_)
            · try simp only [decide_eq_true_eq, decide_eq_false_iff_not, Bool.not_eq_true', Bool.not_eq_false', Bool.not_eq_eq_eq_not, Bool.not_true, Bool.not_false, Bool.and_eq_true, Bool.or_eq_true, Bool.or_eq_false_iff, beq_iff_eq, beq_eq_false_iff_ne, ne_eq, Int.not_lt, Int.not_le, Decidable.not_not] at hg45
              refine g_step_yes (j := 33) (t := 45) rfl rfl rfl rfl (s_val (v_move rfl) rfl rfl ?_)
              refine g_step_yes (j := 33) (t := 45) rfl rfl rfl rfl (s_val (v_indexAddr ty34 ty32 rfl rfl (by first | rfl | assumption) (by first | rfl | exact (rfl : (0 : Int) = ((0 : Nat) : Int)) | exact (Int.toNat_of_nonneg (by omega)).symm) (by first | assumption | exact map_get (by assumption) | rfl) rfl) rfl rfl ?_)
              refine g_step_yes (j := 33) (t := 45) rfl rfl rfl rfl (s_val (by first | exact v_fieldAddr ty32 fo32_0 ty3 rfl | exact v_fieldAddr_box ty32 fo32_0 ty3 rfl) rfl rfl ?_)
              refine g_step_yes (j := 33) (t := 45) rfl rfl rfl rfl (s_val (by first | exact v_load ty3 rfl rfl (by first | rfl | assumption) (by first | assumption | exact map_get (by assumption) | rfl) rfl | exact v_load_box ty3 rfl rfl (by assumption) rfl) rfl rfl ?_)
              refine g_step_yes (j := 33) (t := 45) rfl rfl rfl rfl (s_val (v_eql rfl rfl) rfl rfl ?_)
              refine g_step rfl (s_val (v_pick_t rfl rfl) rfl rfl ?_)
              refine g_step rfl (s_val (v_move rfl) rfl rfl ?_)
              refine g_split 52 rfl (fun hg52 => ?_) (fun hg52 => ?_)
              · try simp only [decide_eq_true_eq, decide_eq_false_iff_not, Bool.not_eq_true', Bool.not_eq_false', Bool.not_eq_eq_eq_not, Bool.not_true, Bool.not_false, Bool.and_eq_true, Bool.or_eq_true, Bool.or_eq_false_iff, beq_iff_eq, beq_eq_false_iff_ne, ne_eq, Int.not_lt, Int.not_le, Decidable.not_not] at hg52
                refine g_step_yes (j := 40) (t := 52) rfl rfl rfl rfl (s_callp rfl rfl rfl (name_ok _ _) ?_)
                rintro _ rfl
                refine g_step_yes (j := 40) (t := 52) rfl rfl rfl rfl (s_val (v_seq rfl rfl) rfl rfl ?_)
                refine g_step rfl (s_val (v_pick_t rfl rfl) rfl rfl ?_)
                refine g_step rfl (s_val (v_assign rfl) rfl rfl ?_)
                refine g_nil ?_
                refine g_next hK3 ?_
                refine g_keep [0] [] [] rfl rfl rfl rfl ?_
                refine g_ret ?_
                refine g_end1 (.inl rfl) Try.results15 (.tmp rfl) [] (ASub.refl _) (AHeap.sub_refl _) (fun p hp => by cases hp) ⟨rfl, ?_⟩
                first | (exact congrArg AV.bool (by decide); done) | (exact congrArg AV.bool (by decide); rfl)
              · exfalso; (try simp only [decide_eq_true_eq, decide_eq_false_iff_not, Bool.not_eq_true', Bool.not_eq_false', Bool.not_eq_eq_eq_not, Bool.not_true, Bool.not_false, Bool.and_eq_true, Bool.or_eq_true, Bool.or_eq_false_iff, beq_iff_eq, beq_eq_false_iff_ne, ne_eq, Int.not_lt, Int.not_le, Decidable.not_not] at hg52); revert hg52; decide
            · exfalso; (try simp only [decide_eq_true_eq, decide_eq_false_iff_not, Bool.not_eq_true', Bool.not_eq_false', Bool.not_eq_eq_eq_not, Bool.not_true, Bool.not_false, Bool.and_eq_true, Bool.or_eq_true, Bool.or_eq_false_iff, beq_iff_eq, beq_eq_false_iff_ne, ne_eq, Int.not_lt, Int.not_le, Decidable.not_not] at hg45); revert hg45; decide
          · exfalso; (try simp only [decide_eq_true_eq, decide_eq_false_iff_not, Bool.not_eq_true', Bool.not_eq_false', Bool.not_eq_eq_eq_not, Bool.not_true, Bool.not_false, Bool.and_eq_true, Bool.or_eq_true, Bool.or_eq_false_iff, beq_iff_eq, beq_eq_false_iff_ne, ne_eq, Int.not_lt, Int.not_le, Decidable.not_not] at hg38); revert hg38; decide
        · exfalso; (try simp only [decide_eq_true_eq, decide_eq_false_iff_not, Bool.not_eq_true', Bool.not_eq_false', Bool.not_eq_eq_eq_not, Bool.not_true, Bool.not_false, Bool.and_eq_true, Bool.or_eq_true, Bool.or_eq_false_iff, beq_iff_eq, beq_eq_false_iff_ne, ne_eq, Int.not_lt, Int.not_le, Decidable.not_not] at hg31); revert hg31; decide
      · exfalso; (try simp only [decide_eq_true_eq, decide_eq_false_iff_not, Bool.not_eq_true', Bool.not_eq_false', Bool.not_eq_eq_eq_not, Bool.not_true, Bool.not_false, Bool.and_eq_true, Bool.or_eq_true, Bool.or_eq_false_iff, beq_iff_eq, beq_eq_false_iff_ne, ne_eq, Int.not_lt, Int.not_le, Decidable.not_not] at hg26); revert hg26; decide
    · exfalso; (try simp only [decide_eq_true_eq, decide_eq_false_iff_not, Bool.not_eq_true', Bool.not_eq_false', Bool.not_eq_eq_eq_not, Bool.not_true, Bool.not_false, Bool.and_eq_true, Bool.or_eq_true, Bool.or_eq_false_iff, beq_iff_eq, beq_eq_false_iff_ne, ne_eq, Int.not_lt, Int.not_le, Decidable.not_not] at hg20); revert hg20; decide
  · exfalso; (try simp only [decide_eq_true_eq, decide_eq_false_iff_not, Bool.not_eq_true', Bool.not_eq_false', Bool.not_eq_eq_eq_not, Bool.not_true, Bool.not_false, Bool.and_eq_true, Bool.or_eq_true, Bool.or_eq_false_iff, beq_iff_eq, beq_eq_false_iff_ne, ne_eq, Int.not_lt, Int.not_le, Decidable.not_not] at hg14); revert hg14; decide

theorem weigh08_ok (a b : Rc) (G : AHeap) (hl : Small a.bag) : PCalls Try.prog 25 [encR a, encR b] G (fun v => v = .int .i64 (weigh a b)) := by
  refine LCalls.intro 74 fi25 rfl Try.ntmps25 rfl (fun _ h => h.elim) (fun H hH w0 hw0 => ?_)
  refine g_seq (fun K0 hK0 => ?_)
  refine g_region ?_
  refine g_step rfl (s_box rfl rfl rfl rfl ?_)
  refine g_step rfl (s_box rfl rfl rfl rfl ?_)
  refine g_step rfl (s_val (v_assign rfl) rfl rfl ?_)
  refine g_nil ?_
  refine g_next hK0 ?_
  refine g_seq (fun K1 hK1 => ?_)
  refine g_cut (fun env L B G => ∃ (u0 : Bool), env = [(11, .bool u0)] ∧ L = [(2, 2, 0), (3, 3, 0)] ∧ B = [(2, encR a), (3, encR b)] ∧ H = G ∧ u0 = (a.cut && !b.cut)) ?_ (fun env L B G hI => ?_)
  · skip
    refine g_region ?_
    refine g_step rfl (s_fieldAddr ty32 fo32_4 ty4 rfl rfl ?_)
    refine g_step rfl (s_val (v_loadl ty4 rfl rfl rfl rfl) rfl rfl ?_)
    refine g_step rfl (s_val (v_move rfl) rfl rfl ?_)
    refine g_split 7 rfl (fun hg7 => ?_) (fun hg7 => ?_)
    · try simp only [decide_eq_true_eq, decide_eq_false_iff_not, Bool.not_eq_true', Bool.not_eq_false', Bool.not_eq_eq_eq_not, Bool.not_true, Bool.not_false, Bool.and_eq_true, Bool.or_eq_true, Bool.or_eq_false_iff, beq_iff_eq, beq_eq_false_iff_ne, ne_eq, Int.not_lt, Int.not_le, Decidable.not_not] at hg7
      refine g_step_yes (j := 2) (t := 7) rfl rfl rfl rfl (s_fieldAddr ty32 fo32_4 ty4 rfl rfl ?_)
      refine g_step_yes (j := 2) (t := 7) rfl rfl rfl rfl (s_val (v_loadl ty4 rfl rfl rfl rfl) rfl rfl ?_)
      refine g_step_yes (j := 2) (t := 7) rfl rfl rfl rfl (s_val (v_not rfl) rfl rfl ?_)
      refine g_step rfl (s_val (v_pick_t rfl rfl) rfl rfl ?_)
      refine g_nil ?_
      refine g_keep [11] [2, 3] [2, 3] rfl rfl rfl rfl ?_
      exact g_has ⟨_, rfl, rfl, rfl, rfl, by simp [*]⟩
    · try simp only [decide_eq_true_eq, decide_eq_false_iff_not, Bool.not_eq_true', Bool.not_eq_false', Bool.not_eq_eq_eq_not, Bool.not_true, Bool.not_false, Bool.and_eq_true, Bool.or_eq_true, Bool.or_eq_false_iff, beq_iff_eq, beq_eq_false_iff_ne, ne_eq, Int.not_lt, Int.not_le, Decidable.not_not] at hg7
      refine g_step_no (j := 2) (t := 7) rfl rfl rfl rfl rfl rfl rfl ?_
      refine g_step_no (j := 2) (t := 7) rfl rfl rfl rfl rfl rfl rfl ?_
      refine g_step_no (j := 2) (t := 7) rfl rfl rfl rfl rfl rfl rfl ?_
      refine g_step rfl (s_val (v_pick_f rfl rfl) rfl rfl ?_)
      refine g_nil ?_
      refine g_keep [11] [2, 3] [2, 3] rfl rfl rfl rfl ?_
      exact g_has ⟨_, rfl, rfl, rfl, rfl, by simp [*]⟩
  · skip
    obtain ⟨u0, rfl, rfl, rfl, rfl, hu0⟩ := hI
    refine g_cond rfl (fun hc11 => ?_) (fun hc11 => ?_)
    · try simp only [decide_eq_true_eq, decide_eq_false_iff_not, Bool.not_eq_true', Bool.not_eq_false', Bool.not_eq_eq_eq_not, Bool.not_true, Bool.not_false, Bool.and_eq_true, Bool.or_eq_true, Bool.or_eq_false_iff, beq_iff_eq, beq_eq_false_iff_ne, ne_eq, Int.not_lt, Int.not_le, Decidable.not_not] at hc11
      refine g_seq (fun K2 hK2 => ?_)
      refine g_region ?_
      refine g_step rfl (s_val (v_assign rfl) rfl rfl ?_)
      refine g_nil ?_
      refine g_next hK2 ?_
      refine g_ret ?_
      refine g_then_ret ?_
      refine g_end1 (.inl rfl) Try.results25 (.tmp rfl) [] (ASub.refl _) (AHeap.sub_refl _) (fun p hp => by cases hp) ⟨rfl, ?_⟩
      first | (rw [← weighW_eq, weighW, if_pos (hu0 ▸ hc11)]; done) | (rw [← weighW_eq, weighW, if_pos (hu0 ▸ hc11)]; rfl)
    · try simp only [decide_eq_true_eq, decide_eq_false_iff_not, Bool.not_eq_true', Bool.not_eq_false', Bool.not_eq_eq_eq_not, Bool.not_true, Bool.not_false, Bool.and_eq_true, Bool.or_eq_true, Bool.or_eq_false_iff, beq_iff_eq, beq_eq_false_iff_ne, ne_eq, Int.not_lt, Int.not_le, Decidable.not_not] at hc11
      refine g_skip ?_
      refine g_next hK1 ?_
      refine g_seq (fun K3 hK3 => ?_)
      refine g_cut (fun env L B G => ∃ (u1 : Bool), env = [(18, .bool u1)] ∧ L = [(2, 2, 0), (3, 3, 0)] ∧ B = [(2, encR a), (3, encR b)] ∧ H = G ∧ u1 = (b.cut && !a.cut)) ?_ (fun env L B G hI => ?_)
      · skip
        refine g_region ?_
        refine g_step rfl (s_fieldAddr ty32 fo32_4 ty4 rfl rfl ?_)
        refine g_step rfl (s_val (v_loadl ty4 rfl rfl rfl rfl) rfl rfl ?_)
        refine g_step rfl (s_val (v_move rfl) rfl rfl ?_)
        refine g_split 14 rfl (fun hg14 => ?_) (fun hg14 => ?_)
        · try simp only [decide_eq_true_eq, decide_eq_false_iff_not, Bool.not_eq_true', Bool.not_eq_false', Bool.not_eq_eq_eq_not, Bool.not_true, Bool.not_false, Bool.and_eq_true, Bool.or_eq_true, Bool.or_eq_false_iff, beq_iff_eq, beq_eq_false_iff_ne, ne_eq, Int.not_lt, Int.not_le, Decidable.not_not] at hg14
          refine g_step_yes (j := 2) (t := 14) rfl rfl rfl rfl (s_fieldAddr ty32 fo32_4 ty4 rfl rfl ?_)
          refine g_step_yes (j := 2) (t := 14) rfl rfl rfl rfl (s_val (v_loadl ty4 rfl rfl rfl rfl) rfl rfl ?_)
          refine g_step_yes (j := 2) (t := 14) rfl rfl rfl rfl (s_val (v_not rfl) rfl rfl ?_)
          refine g_step rfl (s_val (v_pick_t rfl rfl) rfl rfl ?_)
          refine g_nil ?_
          refine g_keep [18] [2, 3] [2, 3] rfl rfl rfl rfl ?_
          exact g_has ⟨_, rfl, rfl, rfl, rfl, by simp [*]⟩
        · try simp only [decide_eq_true_eq, decide_eq_false_iff_not, Bool.not_eq_true', Bool.not_eq_false', Bool.not_eq_eq_eq_not, Bool.not_true, Bool.not_false, Bool.and_eq_true, Bool.or_eq_true, Bool.or_eq_false_iff, beq_iff_eq, beq_eq_false_iff_ne, ne_eq, Int.not_lt, Int.not_le, Decidable.not_not] at hg14
          refine g_step_no (j := 2) (t := 14) rfl rfl rfl rfl rfl rfl rfl ?_
          refine g_step_no (j := 2) (t := 14) rfl rfl rfl rfl rfl rfl rfl ?_
          refine g_step_no (j := 2) (t := 14) rfl rfl rfl rfl rfl rfl rfl ?_
          refine g_step rfl (s_val (v_pick_f rfl rfl) rfl rfl ?_)
          refine g_nil ?_
          refine g_keep [18] [2, 3] [2, 3] rfl rfl rfl rfl ?_
          exact g_has ⟨_, rfl, rfl, rfl, rfl, by simp [*]⟩
      · skip
        obtain ⟨u1, rfl, rfl, rfl, rfl, hu1⟩ := hI
        refine g_cond rfl (fun hc18 => ?_) (fun hc18 => ?_)
        · try simp only [decide_eq_true_eq, decide_eq_false_iff_not, Bool.not_eq_true', Bool.not_eq_false', Bool.not_eq_eq_eq_not, Bool.not_true, Bool.not_false, Bool.and_eq_true, Bool.or_eq_true, Bool.or_eq_false_iff, beq_iff_eq, beq_eq_false_iff_ne, ne_eq, Int.not_lt, Int.not_le, Decidable.not_not] at hc18
          refine g_seq (fun K4 hK4 => ?_)
          refine g_region ?_
          refine g_step rfl (s_val (v_assign rfl) rfl rfl ?_)
          refine g_nil ?_
          refine g_next hK4 ?_
          refine g_ret ?_
          refine g_then_ret ?_
          refine g_end1 (.inl rfl) Try.results25 (.tmp rfl) [] (ASub.refl _) (AHeap.sub_refl _) (fun p hp => by cases hp) ⟨rfl, ?_⟩
          first | (rw [← weighW_eq, weighW, if_neg (by rw [← hu0, hc11]; exact Bool.false_ne_true), if_pos (hu1 ▸ hc18)]; done) | (rw [← weighW_eq, weighW, if_neg (by rw [← hu0, hc11]; exact Bool.false_ne_true), if_pos (hu1 ▸ hc18)]; rfl)
        · try simp only [decide_eq_true_eq, decide_eq_false_iff_not, Bool.not_eq_true', Bool.not_eq_false', Bool.not_eq_eq_eq_not, Bool.not_true, Bool.not_false, Bool.and_eq_true, Bool.or_eq_true, Bool.or_eq_false_iff, beq_iff_eq, beq_eq_false_iff_ne, ne_eq, Int.not_lt, Int.not_le, Decidable.not_not] at hc18
          refine g_skip ?_
          refine g_next hK3 ?_
          refine g_seq (fun K5 hK5 => ?_)
          refine g_cut (fun env L B G => ∃ (u2 : Bool), env = [(43, .bool u2)] ∧ L = [(2, 2, 0), (3, 3, 0)] ∧ B = [(2, encR a), (3, encR b)] ∧ H = G ∧ u2 = (decide (a.sp.lo < b.sp.lo) || decide (a.sp.lo = b.sp.lo) && decide (a.sp.hi < b.sp.hi))) ?_ (fun env L B G hI => ?_)
          · skip
            refine g_region ?_
            refine g_step rfl (s_fieldAddr ty32 fo32_3 ty29 rfl rfl ?_)
            refine g_step rfl (s_fieldAddr ty29 fo29_0 ty3 rfl rfl ?_)
            refine g_step rfl (s_val (v_loadl ty3 rfl rfl rfl rfl) rfl rfl ?_)
            refine g_step rfl (s_fieldAddr ty32 fo32_3 ty29 rfl rfl ?_)
            refine g_step rfl (s_fieldAddr ty29 fo29_0 ty3 rfl rfl ?_)
            refine g_step rfl (s_val (v_loadl ty3 rfl rfl rfl rfl) rfl rfl ?_)
            refine g_step rfl (s_val (v_lss rfl rfl) rfl rfl ?_)
            refine g_step rfl (s_val (v_move rfl) rfl rfl ?_)
            refine g_split 26 rfl (fun hg26 => ?_) (fun hg26 => ?_)
            · try simp only [decide_eq_true_eq, decide_eq_false_iff_not, Bool.not_eq_true', Bool.not_eq_false', Bool.not_eq_eq_eq_not, Bool.not_true, Bool.not_false, Bool.and_eq_true, Bool.or_eq_true, Bool.or_eq_false_iff, beq_iff_eq, beq_eq_false_iff_ne, ne_eq, Int.not_lt, Int.not_le, Decidable.not_not] at hg26
              refine g_step_no (j := 7) (t := 26) rfl rfl rfl rfl rfl rfl rfl ?_
              refine g_step_no (j := 7) (t := 26) rfl rfl rfl rfl rfl rfl rfl ?_
              refine g_step_no (j := 7) (t := 26) rfl rfl rfl rfl rfl rfl rfl ?_
              refine g_step_no (j := 7) (t := 26) rfl rfl rfl rfl rfl rfl rfl ?_
              refine g_step_no (j := 7) (t := 26) rfl rfl rfl rfl rfl rfl rfl ?_
              refine g_step_no (j := 7) (t := 26) rfl rfl rfl rfl rfl rfl rfl ?_
              refine g_step_no (j := 7) (t := 26) rfl rfl rfl rfl rfl rfl rfl ?_
              refine g_step_no (j := 7) (t := 26) rfl rfl rfl rfl rfl rfl rfl ?_
              refine g_step_und (j := 15) (t := 34) rfl rfl rfl rfl rfl rfl ?_
              refine g_step_und (j := 15) (t := 34) rfl rfl rfl rfl rfl rfl ?_
              refine g_step_und (j := 15) (t := 34) rfl rfl rfl rfl rfl rfl ?_
              refine g_step_und (j := 15) (t := 34) rfl rfl rfl rfl rfl rfl ?_
              refine g_step_und (j := 15) (t := 34) rfl rfl rfl rfl rfl rfl ?_
              refine g_step_und (j := 15) (t := 34) rfl rfl rfl rfl rfl rfl ?_
              refine g_step_und (j := 15) (t := 34) rfl rfl rfl rfl rfl rfl ?_
              refine g_step_no (j := 7) (t := 26) rfl rfl rfl rfl rfl rfl rfl ?_
              refine g_step rfl (s_val (v_pick_t rfl rfl) rfl rfl ?_)
              refine g_nil ?_
              refine g_keep [43] [2, 3] [2, 3] rfl rfl rfl rfl ?_
              exact g_has ⟨_, rfl, rfl, rfl, rfl, by simp [*]⟩
            · try simp only [decide_eq_true_eq, decide_eq_false_iff_not, Bool.not_eq_true', Bool.not_eq_false', Bool.not_eq_eq_eq_not, Bool.not_true, Bool.not_false, Bool.and_eq_true, Bool.or_eq_true, Bool.or_eq_false_iff, beq_iff_eq, beq_eq_false_iff_ne, ne_eq, Int.not_lt, Int.not_le, Decidable.not_not] at hg26
              refine g_step_yes (j := 7) (t := 26) rfl rfl rfl rfl (s_fieldAddr ty32 fo32_3 ty29 rfl rfl ?_)
              refine g_step_yes (j := 7) (t := 26) rfl rfl rfl rfl (s_fieldAddr ty29 fo29_0 ty3 rfl rfl ?_)
              refine g_step_yes (j := 7) (t := 26) rfl rfl rfl rfl (s_val (v_loadl ty3 rfl rfl rfl rfl) rfl rfl ?_)
              refine g_step_yes (j := 7) (t := 26) rfl rfl rfl rfl (s_fieldAddr ty32 fo32_3 ty29 rfl rfl ?_)
              refine g_step_yes (j := 7) (t := 26) rfl rfl rfl rfl (s_fieldAddr ty29 fo29_0 ty3 rfl rfl ?_)
              refine g_step_yes (j := 7) (t := 26) rfl rfl rfl rfl (s_val (v_loadl ty3 rfl rfl rfl rfl) rfl rfl ?_)
              refine g_step_yes (j := 7) (t := 26) rfl rfl rfl rfl (s_val (v_eql rfl rfl) rfl rfl ?_)
              refine g_step_yes (j := 7) (t := 26) rfl rfl rfl rfl (s_val (v_move rfl) rfl rfl ?_)
              refine g_split 34 rfl (fun hg34 => ?_) (fun hg34 => ?_)
              · try simp only [decide_eq_true_eq, decide_eq_false_iff_not, Bool.not_eq_true', Bool.not_eq_false', Bool.not_eq_eq_eq_not, Bool.not_true, Bool.not_false, Bool.and_eq_true, Bool.or_eq_true, Bool.or_eq_false_iff, beq_iff_eq, beq_eq_false_iff_ne, ne_eq, Int.not_lt, Int.not_le, Decidable.not_not] at hg34
                refine g_step_yes (j := 15) (t := 34) rfl rfl rfl rfl (s_fieldAddr ty32 fo32_3 ty29 rfl rfl ?_)
                refine g_step_yes (j := 15) (t := 34) rfl rfl rfl rfl (s_fieldAddr ty29 fo29_1 ty3 rfl rfl ?_)
                refine g_step_yes (j := 15) (t := 34) rfl rfl rfl rfl (s_val (v_loadl ty3 rfl rfl rfl rfl) rfl rfl ?_)
                refine g_step_yes (j := 15) (t := 34) rfl rfl rfl rfl (s_fieldAddr ty32 fo32_3 ty29 rfl rfl ?_)
                refine g_step_yes (j := 15) (t := 34) rfl rfl rfl rfl (s_fieldAddr ty29 fo29_1 ty3 rfl rfl ?_)
                refine g_step_yes (j := 15) (t := 34) rfl rfl rfl rfl (s_val (v_loadl ty3 rfl rfl rfl rfl) rfl rfl ?_)
                refine g_step_yes (j := 15) (t := 34) rfl rfl rfl rfl (s_val (v_lss rfl rfl) rfl rfl ?_)
                refine g_step_yes (j := 7) (t := 26) rfl rfl rfl rfl (s_val (v_pick_t rfl rfl) rfl rfl ?_)
                refine g_step rfl (s_val (v_pick_f rfl rfl) rfl rfl ?_)
                refine g_nil ?_
                refine g_keep [43] [2, 3] [2, 3] rfl rfl rfl rfl ?_
                exact g_has ⟨_, rfl, rfl, rfl, rfl, by simp [*]⟩
              · try simp only [decide_eq_true_eq, decide_eq_false_iff_not, Bool.not_eq_true', Bool.not_eq_false', Bool.not_eq_eq_eq_not, Bool.not_true, Bool.not_false, Bool.and_eq_true, Bool.or_eq_true, Bool.or_eq_false_iff, beq_iff_eq, beq_eq_false_iff_ne, ne_eq, Int.not_lt, Int.not_le, Decidable.not_not] at hg34
                refine g_step_no (j := 15) (t := 34) rfl rfl rfl rfl rfl rfl rfl ?_
                refine g_step_no (j := 15) (t := 34) rfl rfl rfl rfl rfl rfl rfl ?_
                refine g_step_no (j := 15) (t := 34) rfl rfl rfl rfl rfl rfl rfl ?_
                refine g_step_no (j := 15) (t := 34) rfl rfl rfl rfl rfl rfl rfl ?_
                refine g_step_no (j := 15) (t := 34) rfl rfl rfl rfl rfl rfl rfl ?_
                refine g_step_no (j := 15) (t := 34) rfl rfl rfl rfl rfl rfl rfl ?_
                refine g_step_no (j := 15) (t := 34) rfl rfl rfl rfl rfl rfl rfl ?_
                refine g_step_yes (j := 7) (t := 26) rfl rfl rfl rfl (s_val (v_pick_f rfl rfl) rfl rfl ?_)
                refine g_step rfl (s_val (v_pick_f rfl rfl) rfl rfl ?_)
                refine g_nil ?_
                refine g_keep [43] [2, 3] [2, 3] rfl rfl rfl rfl ?_
                exact g_has ⟨_, rfl, rfl, rfl, rfl, by simp [*]⟩
          · skip
            obtain ⟨u2, rfl, rfl, rfl, rfl, hu2⟩ := hI
            refine g_cond rfl (fun hc43 => ?_) (fun hc43 => ?_)
            · try simp only [decide_eq_true_eq, decide_eq_false_iff_not, Bool.not_eq_true', Bool.not_eq_false', Bool.not_eq_eq_eq_not, Bool.not_true, Bool.not_false, Bool.and_eq_true, Bool.or_eq_true, Bool.or_eq_false_iff, beq_iff_eq, beq_eq_false_iff_ne, ne_eq, Int.not_lt, Int.not_le, Decidable.not_not] at hc43
              refine g_seq (fun K6 hK6 => ?_)
              refine g_region ?_
              refine g_step rfl (s_val (v_assign rfl) rfl rfl ?_)
              refine g_nil ?_
              refine g_next hK6 ?_
              refine g_ret ?_
              refine g_then_ret ?_
              refine g_end1 (.inl rfl) Try.results25 (.tmp rfl) [] (ASub.refl _) (AHeap.sub_refl _) (fun p hp => by cases hp) ⟨rfl, ?_⟩
              first | (rw [← weighW_eq, weighW, if_neg (by rw [← hu0, hc11]; exact Bool.false_ne_true), if_neg (by rw [← hu1, hc18]; exact Bool.false_ne_true), if_pos (hu2 ▸ hc43)]; done) | (rw [← weighW_eq, weighW, if_neg (by rw [← hu0, hc11]; exact Bool.false_ne_true), if_neg (by rw [← hu1, hc18]; exact Bool.false_ne_true), if_pos (hu2 ▸ hc43)]; rfl)
            · try simp only [decide_eq_true_eq, decide_eq_false_iff_not, Bool.not_eq_true', Bool.not_eq_false', Bool.not_eq_eq_eq_not, Bool.not_true, Bool.not_false, Bool.and_eq_true, Bool.or_eq_true, Bool.or_eq_false_iff, beq_iff_eq, beq_eq_false_iff_ne, ne_eq, Int.not_lt, Int.not_le, Decidable.not_not] at hc43
              refine g_skip ?_
              refine g_next hK5 ?_
              refine g_seq (fun K7 hK7 => ?_)
              refine g_cut (fun env L B G => ∃ (u3 : Bool), env = [(68, .bool u3)] ∧ L = [(2, 2, 0), (3, 3, 0)] ∧ B = [(2, encR a), (3, encR b)] ∧ H = G ∧ u3 = (decide (b.sp.lo < a.sp.lo) || decide (a.sp.lo = b.sp.lo) && decide (b.sp.hi < a.sp.hi))) ?_ (fun env L B G hI => ?_)
              · skip
                refine g_region ?_
                refine g_step rfl (s_fieldAddr ty32 fo32_3 ty29 rfl rfl ?_)
                refine g_step rfl (s_fieldAddr ty29 fo29_0 ty3 rfl rfl ?_)
                refine g_step rfl (s_val (v_loadl ty3 rfl rfl rfl rfl) rfl rfl ?_)
                refine g_step rfl (s_fieldAddr ty32 fo32_3 ty29 rfl rfl ?_)
                refine g_step rfl (s_fieldAddr ty29 fo29_0 ty3 rfl rfl ?_)
                refine g_step rfl (s_val (v_loadl ty3 rfl rfl rfl rfl) rfl rfl ?_)
                refine g_step rfl (s_val (v_lss rfl rfl) rfl rfl ?_)
                refine g_step rfl (s_val (v_move rfl) rfl rfl ?_)
                refine g_split 51 rfl (fun hg51 => ?_) (fun hg51 => ?_)
                · try simp only [decide_eq_true_eq, decide_eq_false_iff_not, Bool.not_eq_true', Bool.not_eq_false', Bool.not_eq_eq_eq_not, Bool.not_true, Bool.not_false, Bool.and_eq_true, Bool.or_eq_true, Bool.or_eq_false_iff, beq_iff_eq, beq_eq_false_iff_ne, ne_eq, Int.not_lt, Int.not_le, Decidable.not_not] at hg51
                  refine g_step_no (j := 7) (t := 51) rfl rfl rfl rfl rfl rfl rfl ?_
                  refine g_step_no (j := 7) (t := 51) rfl rfl rfl rfl rfl rfl rfl ?_
                  refine g_step_no (j := 7) (t := 51) rfl rfl rfl rfl rfl rfl rfl ?_
                  refine g_step_no (j := 7) (t := 51) rfl rfl rfl rfl rfl rfl rfl ?_
                  refine g_step_no (j := 7) (t := 51) rfl rfl rfl rfl rfl rfl rfl ?_
                  refine g_step_no (j := 7) (t := 51) rfl rfl rfl rfl rfl rfl rfl ?_
                  refine g_step_no (j := 7) (t := 51) rfl rfl rfl rfl rfl rfl rfl ?_
                  refine g_step_no (j := 7) (t := 51) rfl rfl rfl rfl rfl rfl rfl ?_
                  refine g_step_und (j := 15) (t := 59) rfl rfl rfl rfl rfl rfl ?_
                  refine g_step_und (j := 15) (t := 59) rfl rfl rfl rfl rfl rfl ?_
                  refine g_step_und (j := 15) (t := 59) rfl rfl rfl rfl rfl rfl ?_
                  refine g_step_und (j := 15) (t := 59) rfl rfl rfl rfl rfl rfl ?_
                  refine g_step_und (j := 15) (t := 59) rfl rfl rfl rfl rfl rfl ?_
                  refine g_step_und (j := 15) (t := 59) rfl rfl rfl rfl rfl rfl ?_
                  refine g_step_und (j := 15) (t := 59) rfl rfl rfl rfl rfl rfl ?_
                  refine g_step_no (j := 7) (t := 51) rfl rfl rfl rfl rfl rfl rfl ?_
                  refine g_step rfl (s_val (v_pick_t rfl rfl) rfl rfl ?_)
                  refine g_nil ?_
                  refine g_keep [68] [2, 3] [2, 3] rfl rfl rfl rfl ?_
                  exact g_has ⟨_, rfl, rfl, rfl, rfl, by simp [*]⟩
                · try simp only [decide_eq_true_eq, decide_eq_false_iff_not, Bool.not_eq_true', Bool.not_eq_false', Bool.not_eq_eq_eq_not, Bool.not_true, Bool.not_false, Bool.and_eq_true, Bool.or_eq_true, Bool.or_eq_false_iff, beq_iff_eq, beq_eq_false_iff_ne, ne_eq, Int.not_lt, Int.not_le, Decidable.not_not] at hg51
                  refine g_step_yes (j := 7) (t := 51) rfl rfl rfl rfl (s_fieldAddr ty32 fo32_3 ty29 rfl rfl ?_)
                  refine g_step_yes (j := 7) (t := 51) rfl rfl rfl rfl (s_fieldAddr ty29 fo29_0 ty3 rfl rfl ?_)
                  refine g_step_yes (j := 7) (t := 51) rfl rfl rfl rfl (s_val (v_loadl ty3 rfl rfl rfl rfl) rfl rfl ?_)
                  refine g_step_yes (j := 7) (t := 51) rfl rfl rfl rfl (s_fieldAddr ty32 fo32_3 ty29 rfl rfl ?_)
                  refine g_step_yes (j := 7) (t := 51) rfl rfl rfl rfl (s_fieldAddr ty29 fo29_0 ty3 rfl rfl ?_)
                  refine g_step_yes (j := 7) (t := 51) rfl rfl rfl rfl (s_val (v_loadl ty3 rfl rfl rfl rfl) rfl rfl ?_)
                  refine g_step_yes (j := 7) (t := 51) rfl rfl rfl rfl (s_val (v_eql rfl rfl) rfl rfl ?_)
                  refine g_step_yes (j := 7) (t := 51) rfl rfl rfl rfl (s_val (v_move rfl) rfl rfl ?_)
                  refine g_split 59 rfl (fun hg59 => ?_) (fun hg59 => ?_)
                  · try simp only [decide_eq_true_eq, decide_eq_false_iff_not, Bool.not_eq_true', Bool.not_eq_false', Bool.not_eq_eq_eq_not, Bool.not_true, Bool.not_false, Bool.and_eq_true, Bool.or_eq_true, Bool.or_eq_false_iff, beq_iff_eq, beq_eq_false_iff_ne, ne_eq, Int.not_lt, Int.not_le, Decidable.not_not] at hg59
                    refine g_step_yes (j := 15) (t := 59) rfl rfl rfl rfl (s_fieldAddr ty32 fo32_3 ty29 rfl rfl ?_)
                    refine g_step_yes (j := 15) (t := 59) rfl rfl rfl rfl (s_fieldAddr ty29 fo29_1 ty3 rfl rfl ?_)
                    refine g_step_yes (j := 15) (t := 59) rfl rfl rfl rfl (s_val (v_loadl ty3 rfl rfl rfl rfl) rfl rfl ?_)
                    refine g_step_yes (j := 15) (t := 59) rfl rfl rfl rfl (s_fieldAddr ty32 fo32_3 ty29 rfl rfl ?_)
                    refine g_step_yes (j := 15) (t := 59) rfl rfl rfl rfl (s_fieldAddr ty29 fo29_1 ty3 rfl rfl ?_)
                    refine g_step_yes (j := 15) (t := 59) rfl rfl rfl rfl (s_val (v_loadl ty3 rfl rfl rfl rfl) rfl rfl ?_)
                    refine g_step_yes (j := 15) (t := 59) rfl rfl rfl rfl (s_val (v_lss rfl rfl) rfl rfl ?_)
                    refine g_step_yes (j := 7) (t := 51) rfl rfl rfl rfl (s_val (v_pick_t rfl rfl) rfl rfl ?_)
                    refine g_step rfl (s_val (v_pick_f rfl rfl) rfl rfl ?_)
                    refine g_nil ?_
                    refine g_keep [68] [2, 3] [2, 3] rfl rfl rfl rfl ?_
                    exact g_has ⟨_, rfl, rfl, rfl, rfl, by simp [*]⟩
                  · try simp only [decide_eq_true_eq, decide_eq_false_iff_not, Bool.not_eq_true', Bool.not_eq_false', Bool.not_eq_eq_eq_not, Bool.not_true, Bool.not_false, Bool.and_eq_true, Bool.or_eq_true, Bool.or_eq_false_iff, beq_iff_eq, beq_eq_false_iff_ne, ne_eq, Int.not_lt, Int.not_le, Decidable.not_not] at hg59
                    refine g_step_no (j := 15) (t := 59) rfl rfl rfl rfl rfl rfl rfl ?_
                    refine g_step_no (j := 15) (t := 59) rfl rfl rfl rfl rfl rfl rfl ?_
                    refine g_step_no (j := 15) (t := 59) rfl rfl rfl rfl rfl rfl rfl ?_
                    refine g_step_no (j := 15) (t := 59) rfl rfl rfl rfl rfl rfl rfl ?_
                    refine g_step_no (j := 15) (t := 59) rfl rfl rfl rfl rfl rfl rfl ?_
                    refine g_step_no (j := 15) (t := 59) rfl rfl rfl rfl rfl rfl rfl ?_
                    refine g_step_no (j := 15) (t := 59) rfl rfl rfl rfl rfl rfl rfl ?_
                    refine g_step_yes (j := 7) (t := 51) rfl rfl rfl rfl (s_val (v_pick_f rfl rfl) rfl rfl ?_)
                    refine g_step rfl (s_val (v_pick_f rfl rfl) rfl rfl ?_)
                    refine g_nil ?_
                    refine g_keep [68] [2, 3] [2, 3] rfl rfl rfl rfl ?_
                    exact g_has ⟨_, rfl, rfl, rfl, rfl, by simp [*]⟩
              · skip
                obtain ⟨u3, rfl, rfl, rfl, rfl, hu3⟩ := hI
                refine g_cond rfl (fun hc68 => ?_) (fun hc68 => ?_)
                · try simp only [decide_eq_true_eq, decide_eq_false_iff_not, Bool.not_eq_true', Bool.not_eq_false', Bool.not_eq_eq_eq_not, Bool.not_true, Bool.not_false, Bool.and_eq_true, Bool.or_eq_true, Bool.or_eq_false_iff, beq_iff_eq, beq_eq_false_iff_ne, ne_eq, Int.not_lt, Int.not_le, Decidable.not_not] at hc68
                  refine g_seq (fun K8 hK8 => ?_)
                  refine g_region ?_
                  refine g_step rfl (s_val (v_assign rfl) rfl rfl ?_)
                  refine g_nil ?_
                  refine g_next hK8 ?_
                  refine g_ret ?_
                  refine g_then_ret ?_
                  refine g_end1 (.inl rfl) Try.results25 (.tmp rfl) [] (ASub.refl _) (AHeap.sub_refl _) (fun p hp => by cases hp) ⟨rfl, ?_⟩
                  first | (rw [← weighW_eq, weighW, if_neg (by rw [← hu0, hc11]; exact Bool.false_ne_true), if_neg (by rw [← hu1, hc18]; exact Bool.false_ne_true), if_neg (by rw [← hu2, hc43]; exact Bool.false_ne_true), if_pos (hu3 ▸ hc68)]; done) | (rw [← weighW_eq, weighW, if_neg (by rw [← hu0, hc11]; exact Bool.false_ne_true), if_neg (by rw [← hu1, hc18]; exact Bool.false_ne_true), if_neg (by rw [← hu2, hc43]; exact Bool.false_ne_true), if_pos (hu3 ▸ hc68)]; rfl)
                · try simp only [decide_eq_true_eq, decide_eq_false_iff_not, Bool.not_eq_true', Bool.not_eq_false', Bool.not_eq_eq_eq_not, Bool.not_true, Bool.not_false, Bool.and_eq_true, Bool.or_eq_true, Bool.or_eq_false_iff, beq_iff_eq, beq_eq_false_iff_ne, ne_eq, Int.not_lt, Int.not_le, Decidable.not_not] at hc68
                  refine g_skip ?_
                  refine g_next hK7 ?_
                  refine g_seq (fun K9 hK9 => ?_)
                  refine g_region ?_
                  refine g_step rfl (s_fieldAddr ty32 fo32_5 ty30 rfl rfl ?_)
                  refine g_step rfl (s_val (v_loadl ty30 rfl rfl rfl rfl) rfl rfl ?_)
                  refine g_step rfl (s_fieldAddr ty32 fo32_5 ty30 rfl rfl ?_)
                  refine g_step rfl (s_val (v_loadl ty30 rfl rfl rfl rfl) rfl rfl ?_)
                  refine g_step rfl (s_callp rfl rfl rfl (bagCompare_ok a.bag b.bag _ _ _ rfl rfl hl) ?_)
                  rintro _ rfl
                  refine g_step rfl (s_val (v_assign rfl) rfl rfl ?_)
                  refine g_nil ?_
                  refine g_next hK9 ?_
                  refine g_ret ?_
                  refine g_end1 (.inl rfl) Try.results25 (.tmp rfl) [] (ASub.refl _) (AHeap.sub_refl _) (fun p hp => by cases hp) ⟨rfl, ?_⟩
                  first | (rw [← weighW_eq, weighW, if_neg (by rw [← hu0, hc11]; exact Bool.false_ne_true), if_neg (by rw [← hu1, hc18]; exact Bool.false_ne_true), if_neg (by rw [← hu2, hc43]; exact Bool.false_ne_true), if_neg (by rw [← hu3, hc68]; exact Bool.false_ne_true)]; done) | (rw [← weighW_eq, weighW, if_neg (by rw [← hu0, hc11]; exact Bool.false_ne_true), if_neg (by rw [← hu1, hc18]; exact Bool.false_ne_true), if_neg (by rw [← hu2, hc43]; exact Bool.false_ne_true), if_neg (by rw [← hu3, hc68]; exact Bool.false_ne_true)]; rfl)

theorem may08_ok (r : Rc) (G : AHeap) (hl : Small r.bag) : PCalls Try.prog 29 [encR r] G (fun v => v = .bool (recValid r)) := by
  refine LCalls.intro 50 fi29 rfl Try.ntmps29 rfl (fun _ h => h.elim) (fun H hH w0 hw0 => ?_)
  refine g_seq (fun K0 hK0 => ?_)
  refine g_region ?_
  refine g_step rfl (s_box rfl rfl rfl rfl ?_)
  refine g_step rfl (s_val (v_assign rfl) rfl rfl ?_)
  refine g_nil ?_
  refine g_next hK0 ?_
  refine g_seq (fun K1 hK1 => ?_)
  refine g_cut (fun env L B G => ∃ (u : Bool), env = [(30, .bool u)] ∧ L = [(1, 1, 0)] ∧ B = [(1, encR r)] ∧ H = G ∧ u = !(decide (0 ≤ r.id ∧ r.id ≤ 4095 ∧ 0 ≤ r.inc ∧ r.inc ≤ 281474976710655 ∧ 0 ≤ r.st ∧ r.st ≤ 3))) ?_ (fun env L B G hI => ?_)
  · skip
    refine g_region ?_
    refine g_step rfl (s_fieldAddr ty32 fo32_0 ty3 rfl rfl ?_)
    refine g_step rfl (s_val (v_loadl ty3 rfl rfl rfl rfl) rfl rfl ?_)
    refine g_step rfl (s_val (v_lss rfl rfl) rfl rfl ?_)
    refine g_step rfl (s_val (v_move rfl) rfl rfl ?_)
    refine g_split 6 rfl (fun hg6 => ?_) (fun hg6 => ?_)
    · try simp only [decide_eq_true_eq, decide_eq_false_iff_not, Bool.not_eq_true', Bool.not_eq_false', Bool.not_eq_eq_eq_not, Bool.not_true, Bool.not_false, Bool.and_eq_true, Bool.or_eq_true, Bool.or_eq_false_iff, beq_iff_eq, beq_eq_false_iff_ne, ne_eq, Int.not_lt, Int.not_le, Decidable.not_not] at hg6
      refine g_step_no (j := 3) (t := 6) rfl rfl rfl rfl rfl rfl rfl ?_
      refine g_step_no (j := 3) (t := 6) rfl rfl rfl rfl rfl rfl rfl ?_
      refine g_step_no (j := 3) (t := 6) rfl rfl rfl rfl rfl rfl rfl ?_
      refine g_step rfl (s_val (v_pick_t rfl rfl) rfl rfl ?_)
      refine g_step rfl (s_val (v_move rfl) rfl rfl ?_)
      refine g_step_no (j := 8) (t := 11) rfl rfl rfl rfl rfl rfl rfl ?_
      refine g_step_no (j := 8) (t := 11) rfl rfl rfl rfl rfl rfl rfl ?_
      refine g_step_no (j := 8) (t := 11) rfl rfl rfl rfl rfl rfl rfl ?_
      refine g_step rfl (s_val (v_pick_t rfl rfl) rfl rfl ?_)
      refine g_step rfl (s_val (v_move rfl) rfl rfl ?_)
      refine g_step_no (j := 13) (t := 16) rfl rfl rfl rfl rfl rfl rfl ?_
      refine g_step_no (j := 13) (t := 16) rfl rfl rfl rfl rfl rfl rfl ?_
      refine g_step_no (j := 13) (t := 16) rfl rfl rfl rfl rfl rfl rfl ?_
      refine g_step rfl (s_val (v_pick_t rfl rfl) rfl rfl ?_)
      refine g_step rfl (s_val (v_move rfl) rfl rfl ?_)
      refine g_step_no (j := 18) (t := 21) rfl rfl rfl rfl rfl rfl rfl ?_
      refine g_step_no (j := 18) (t := 21) rfl rfl rfl rfl rfl rfl rfl ?_
      refine g_step_no (j := 18) (t := 21) rfl rfl rfl rfl rfl rfl rfl ?_
      refine g_step rfl (s_val (v_pick_t rfl rfl) rfl rfl ?_)
      refine g_step rfl (s_val (v_move rfl) rfl rfl ?_)
      refine g_step_no (j := 23) (t := 26) rfl rfl rfl rfl rfl rfl rfl ?_
      refine g_step_no (j := 23) (t := 26) rfl rfl rfl rfl rfl rfl rfl ?_
      refine g_step_no (j := 23) (t := 26) rfl rfl rfl rfl rfl rfl rfl ?_
      refine g_step rfl (s_val (v_pick_t rfl rfl) rfl rfl ?_)
      refine g_nil ?_
      refine g_keep [30] [1] [1] rfl rfl rfl rfl ?_
      exact g_has ⟨_, rfl, rfl, rfl, rfl, by rw [Bool.eq_iff_iff]; simp <;> omega⟩
    · try simp only [decide_eq_true_eq, decide_eq_false_iff_not, Bool.not_eq_true', Bool.not_eq_false', Bool.not_eq_eq_eq_not, Bool.not_true, Bool.not_false, Bool.and_eq_true, Bool.or_eq_true, Bool.or_eq_false_iff, beq_iff_eq, beq_eq_false_iff_ne, ne_eq, Int.not_lt, Int.not_le, Decidable.not_not] at hg6
      refine g_step_yes (j := 3) (t := 6) rfl rfl rfl rfl (s_fieldAddr ty32 fo32_0 ty3 rfl rfl ?_)
      refine g_step_yes (j := 3) (t := 6) rfl rfl rfl rfl (s_val (v_loadl ty3 rfl rfl rfl rfl) rfl rfl ?_)
      refine g_step_yes (j := 3) (t := 6) rfl rfl rfl rfl (s_val (v_gtr rfl rfl) rfl rfl ?_)
      refine g_step rfl (s_val (v_pick_f rfl rfl) rfl rfl ?_)
      refine g_step rfl (s_val (v_move rfl) rfl rfl ?_)
      refine g_split 11 rfl (fun hg11 => ?_) (fun hg11 => ?_)
      · try simp only [decide_eq_true_eq, decide_eq_false_iff_not, Bool.not_eq_true', Bool.not_eq_false', Bool.not_eq_eq_eq_not, Bool.not_true, Bool.not_false, Bool.and_eq_true, Bool.or_eq_true, Bool.or_eq_false_iff, beq_iff_eq, beq_eq_false_iff_ne, ne_eq, Int.not_lt, Int.not_le, Decidable.not_not] at hg11
        refine g_step_no (j := 8) (t := 11) rfl rfl rfl rfl rfl rfl rfl ?_
        refine g_step_no (j := 8) (t := 11) rfl rfl rfl rfl rfl rfl rfl ?_
        refine g_step_no (j := 8) (t := 11) rfl rfl rfl rfl rfl rfl rfl ?_
        refine g_step rfl (s_val (v_pick_t rfl rfl) rfl rfl ?_)
        refine g_step rfl (s_val (v_move rfl) rfl rfl ?_)
        refine g_step_no (j := 13) (t := 16) rfl rfl rfl rfl rfl rfl rfl ?_
        refine g_step_no (j := 13) (t := 16) rfl rfl rfl rfl rfl rfl rfl ?_
        refine g_step_no (j := 13) (t := 16) rfl rfl rfl rfl rfl rfl rfl ?_
        refine g_step rfl (s_val (v_pick_t rfl rfl) rfl rfl ?_)
        refine g_step rfl (s_val (v_move rfl) rfl rfl ?_)
        refine g_step_no (j := 18) (t := 21) rfl rfl rfl rfl rfl rfl rfl ?_
        refine g_step_no (j := 18) (t := 21) rfl rfl rfl rfl rfl rfl rfl ?_
        refine g_step_no (j := 18) (t := 21) rfl rfl rfl rfl rfl rfl rfl ?_
        refine g_step rfl (s_val (v_pick_t rfl rfl) rfl rfl ?_)
        refine g_step rfl (s_val (v_move rfl) rfl rfl ?_)
        refine g_step_no (j := 23) (t := 26) rfl rfl rfl rfl rfl rfl rfl ?_
        refine g_step_no (j := 23) (t := 26) rfl rfl rfl rfl rfl rfl rfl ?_
        refine g_step_no (j := 23) (t := 26) rfl rfl rfl rfl rfl rfl rfl ?_
        refine g_step rfl (s_val (v_pick_t rfl rfl) rfl rfl ?_)
        refine g_nil ?_
        refine g_keep [30] [1] [1] rfl rfl rfl rfl ?_
        exact g_has ⟨_, rfl, rfl, rfl, rfl, by rw [Bool.eq_iff_iff]; simp <;> omega⟩
      · try simp only [decide_eq_true_eq, decide_eq_false_iff_not, Bool.not_eq_true', Bool.not_eq_false', Bool.not_eq_eq_eq_not, Bool.not_true, Bool.not_false, Bool.and_eq_true, Bool.or_eq_true, Bool.or_eq_false_iff, beq_iff_eq, beq_eq_false_iff_ne, ne_eq, Int.not_lt, Int.not_le, Decidable.not_not] at hg11
        refine g_step_yes (j := 8) (t := 11) rfl rfl rfl rfl (s_fieldAddr ty32 fo32_1 ty3 rfl rfl ?_)
        refine g_step_yes (j := 8) (t := 11) rfl rfl rfl rfl (s_val (v_loadl ty3 rfl rfl rfl rfl) rfl rfl ?_)
        refine g_step_yes (j := 8) (t := 11) rfl rfl rfl rfl (s_val (v_lss rfl rfl) rfl rfl ?_)
        refine g_step rfl (s_val (v_pick_f rfl rfl) rfl rfl ?_)
        refine g_step rfl (s_val (v_move rfl) rfl rfl ?_)
        refine g_split 16 rfl (fun hg16 => ?_) (fun hg16 => ?_)
        · try simp only [decide_eq_true_eq, decide_eq_false_iff_not, Bool.not_eq_true', Bool.not_eq_false', Bool.not_eq_eq_eq_not, Bool.not_true, Bool.not_false, Bool.and_eq_true, Bool.or_eq_true, Bool.or_eq_false_iff, beq_iff_eq, beq_eq_false_iff_ne, ne_eq, Int.not_lt, Int.not_le, Decidable.not_not] at hg16
          refine g_step_no (j := 13) (t := 16) rfl rfl rfl rfl rfl rfl rfl ?_
          refine g_step_no (j := 13) (t := 16) rfl rfl rfl rfl rfl rfl rfl ?_
          refine g_step_no (j := 13) (t := 16) rfl rfl rfl rfl rfl rfl rfl ?_
          refine g_step rfl (s_val (v_pick_t rfl rfl) rfl rfl ?_)
          refine g_step rfl (s_val (v_move rfl) rfl rfl ?_)
          refine g_step_no (j := 18) (t := 21) rfl rfl rfl rfl rfl rfl rfl ?_
          refine g_step_no (j := 18) (t := 21) rfl rfl rfl rfl rfl rfl rfl ?_
          refine g_step_no (j := 18) (t := 21) rfl rfl rfl rfl rfl rfl rfl ?_
          refine g_step rfl (s_val (v_pick_t rfl rfl) rfl rfl ?_)
          refine g_step rfl (s_val (v_move rfl) rfl rfl ?_)
          refine g_step_no (j := 23) (t := 26) rfl rfl rfl rfl rfl rfl rfl ?_
          refine g_step_no (j := 23) (t := 26) rfl rfl rfl rfl rfl rfl rfl ?_
          refine g_step_no (j := 23) (t := 26) rfl rfl rfl rfl rfl rfl rfl ?_
          refine g_step rfl (s_val (v_pick_t rfl rfl) rfl rfl ?_)
          refine g_nil ?_
          refine g_keep [30] [1] [1] rfl rfl rfl rfl ?_
          exact g_has ⟨_, rfl, rfl, rfl, rfl, by rw [Bool.eq_iff_iff]; simp <;> omega⟩
        · try simp only [decide_eq_true_eq, decide_eq_false_iff_not, Bool.not_eq_true', Bool.not_eq_false', Bool.not_eq_eq_eq_not, Bool.not_true, Bool.not_false, Bool.and_eq_true, Bool.or_eq_true, Bool.or_eq_false_iff, beq_iff_eq, beq_eq_false_iff_ne, ne_eq, Int.not_lt, Int.not_le, Decidable.not_not] at hg16
          refine g_step_yes (j := 13) (t := 16) rfl rfl rfl rfl (s_fieldAddr ty32 fo32_1 ty3 rfl rfl ?_)
          refine g_step_yes (j := 13) (t := 16) rfl rfl rfl rfl (s_val (v_loadl ty3 rfl rfl rfl rfl) rfl rfl ?_)
          refine g_step_yes (j := 13) (t := 16) rfl rfl rfl rfl (s_val (v_gtr rfl rfl) rfl rfl ?_)
          refine g_step rfl (s_val (v_pick_f rfl rfl) rfl rfl ?_)
          refine g_step rfl (s_val (v_move rfl) rfl rfl ?_)
          refine g_split 21 rfl (fun hg21 => ?_) (fun hg21 => ?_)
          · try simp only [decide_eq_true_eq, decide_eq_false_iff_not, Bool.not_eq_true', Bool.not_eq_false', Bool.not_eq_eq_eq_not, Bool.not_true, Bool.not_false, Bool.and_eq_true, Bool.or_eq_true, Bool.or_eq_false_iff, beq_iff_eq, beq_eq_false_iff_ne, ne_eq, Int.not_lt, Int.not_le, Decidable.not_not] at hg21
            refine g_step_no (j := 18) (t := 21) rfl rfl rfl rfl rfl rfl rfl ?_
            refine g_step_no (j := 18) (t := 21) rfl rfl rfl rfl rfl rfl rfl ?_
            refine g_step_no (j := 18) (t := 21) rfl rfl rfl rfl rfl rfl rfl ?_
            refine g_step rfl (s_val (v_pick_t rfl rfl) rfl rfl ?_)
            refine g_step rfl (s_val (v_move rfl) rfl rfl ?_)
            refine g_step_no (j := 23) (t := 26) rfl rfl rfl rfl rfl rfl rfl ?_
            refine g_step_no (j := 23) (t := 26) rfl rfl rfl rfl rfl rfl rfl ?_
            refine g_step_no (j := 23) (t := 26) rfl rfl rfl rfl rfl rfl rfl ?_
            refine g_step rfl (s_val (v_pick_t rfl rfl) rfl rfl ?_)
            refine g_nil ?_
            refine g_keep [30] [1] [1] rfl rfl rfl rfl ?_
            exact g_has ⟨_, rfl, rfl, rfl, rfl, by rw [Bool.eq_iff_iff]; simp <;> omega⟩
          · try simp only [decide_eq_true_eq, decide_eq_false_iff_not, Bool.not_eq_true', Bool.not_eq_false', Bool.not_eq_eq_eq_not, Bool.not_true, Bool.not_false, Bool.and_eq_true, Bool.or_eq_true, Bool.or_eq_false_iff, beq_iff_eq, beq_eq_false_iff_ne, ne_eq, Int.not_lt, Int.not_le, Decidable.not_not] at hg21
            refine g_step_yes (j := 18) (t := 21) rfl rfl rfl rfl (s_fieldAddr ty32 fo32_2 ty3 rfl rfl ?_)
            refine g_step_yes (j := 18) (t := 21) rfl rfl rfl rfl (s_val (v_loadl ty3 rfl rfl rfl rfl) rfl rfl ?_)
            refine g_step_yes (j := 18) (t := 21) rfl rfl rfl rfl (s_val (v_lss rfl rfl) rfl rfl ?_)
            refine g_step rfl (s_val (v_pick_f rfl rfl) rfl rfl ?_)
            refine g_step rfl (s_val (v_move rfl) rfl rfl ?_)
            refine g_split 26 rfl (fun hg26 => ?_) (fun hg26 => ?_)
            · try simp only [decide_eq_true_eq, decide_eq_false_iff_not, Bool.not_eq_true', Bool.not_eq_false', Bool.not_eq_eq_eq_not, Bool.not_true, Bool.not_false, Bool.and_eq_true, Bool.or_eq_true, Bool.or_eq_false_iff, beq_iff_eq, beq_eq_false_iff_ne, ne_eq, Int.not_lt, Int.not_le, Decidable.not_not] at hg26
              refine g_step_no (j := 23) (t := 26) rfl rfl rfl rfl rfl rfl rfl ?_
              refine g_step_no (j := 23) (t := 26) rfl rfl rfl rfl rfl rfl rfl ?_
              refine g_step_no (j := 23) (t := 26) rfl rfl rfl rfl rfl rfl rfl ?_
              refine g_step rfl (s_val (v_pick_t rfl rfl) rfl rfl ?_)
              refine g_nil ?_
              refine g_keep [30] [1] [1] rfl rfl rfl rfl ?_
              exact g_has ⟨_, rfl, rfl, rfl, rfl, by rw [Bool.eq_iff_iff]; simp <;> omega⟩
            · try simp only [decide_eq_true_eq, decide_eq_false_iff_not, Bool.not_eq_true', Bool.not_eq_false', Bool.not_eq_eq_eq_not, Bool.not_true, Bool.not_false, Bool.and_eq_true, Bool.or_eq_true, Bool.or_eq_false_iff, beq_iff_eq, beq_eq_false_iff_ne, ne_eq, Int.not_lt, Int.not_le, Decidable.not_not] at hg26
              refine g_step_yes (j := 23) (t := 26) rfl rfl rfl rfl (s_fieldAddr ty32 fo32_2 ty3 rfl rfl ?_)
              refine g_step_yes (j := 23) (t := 26) rfl rfl rfl rfl (s_val (v_loadl ty3 rfl rfl rfl rfl) rfl rfl ?_)
              refine g_step_yes (j := 23) (t := 26) rfl rfl rfl rfl (s_val (v_gtr rfl rfl) rfl rfl ?_)
              refine g_step rfl (s_val (v_pick_f rfl rfl) rfl rfl ?_)
              refine g_nil ?_
              refine g_keep [30] [1] [1] rfl rfl rfl rfl ?_
              exact g_has ⟨_, rfl, rfl, rfl, rfl, by rw [Bool.eq_iff_iff]; simp <;> omega⟩
  · skip
    obtain ⟨u, rfl, rfl, rfl, rfl, hu⟩ := hI
    refine g_cond rfl (fun hc30 => ?_) (fun hc30 => ?_)
    · try simp only [decide_eq_true_eq, decide_eq_false_iff_not, Bool.not_eq_true', Bool.not_eq_false', Bool.not_eq_eq_eq_not, Bool.not_true, Bool.not_false, Bool.and_eq_true, Bool.or_eq_true, Bool.or_eq_false_iff, beq_iff_eq, beq_eq_false_iff_ne, ne_eq, Int.not_lt, Int.not_le, Decidable.not_not] at hc30
      refine g_seq (fun K2 hK2 => ?_)
      refine g_region ?_
      refine g_step rfl (s_val (v_assign rfl) rfl rfl ?_)
      refine g_nil ?_
      refine g_next hK2 ?_
      refine g_ret ?_
      refine g_then_ret ?_
      refine g_end1 (.inl rfl) Try.results29 (.tmp rfl) [] (ASub.refl _) (AHeap.sub_refl _) (fun p hp => by cases hp) ⟨rfl, ?_⟩
      first | (rw [hc30] at hu; simp only [Bool.true_eq, Bool.not_eq_true'] at hu; rw [recValid, hu]; done) | (rw [hc30] at hu; simp only [Bool.true_eq, Bool.not_eq_true'] at hu; rw [recValid, hu]; rfl)
    · try simp only [decide_eq_true_eq, decide_eq_false_iff_not, Bool.not_eq_true', Bool.not_eq_false', Bool.not_eq_eq_eq_not, Bool.not_true, Bool.not_false, Bool.and_eq_true, Bool.or_eq_true, Bool.or_eq_false_iff, beq_iff_eq, beq_eq_false_iff_ne, ne_eq, Int.not_lt, Int.not_le, Decidable.not_not] at hc30
      refine g_skip ?_
      refine g_next hK1 ?_
      refine g_seq (fun K3 hK3 => ?_)
      refine g_region ?_
      refine g_step rfl (s_fieldAddr ty32 fo32_3 ty29 rfl rfl ?_)
      refine g_step rfl (s_val (v_loadl_part (cs := [_, _]) ty29 rfl rfl rfl rfl rfl rfl) rfl rfl ?_)
      refine g_step rfl (s_callp rfl rfl rfl (spValid_ok _ _) ?_)
      rintro _ rfl
      refine g_step rfl (s_val (v_move rfl) rfl rfl ?_)
      refine g_split 34 rfl (fun hg34 => ?_) (fun hg34 => ?_)
      · try simp only [decide_eq_true_eq, decide_eq_false_iff_not, Bool.not_eq_true', Bool.not_eq_false', Bool.not_eq_eq_eq_not, Bool.not_true, Bool.not_false, Bool.and_eq_true, Bool.or_eq_true, Bool.or_eq_false_iff, beq_iff_eq, beq_eq_false_iff_ne, ne_eq, Int.not_lt, Int.not_le, Decidable.not_not] at hg34
        refine g_step_yes (j := 3) (t := 34) rfl rfl rfl rfl (s_fieldAddr ty32 fo32_5 ty30 rfl rfl ?_)
        refine g_step_yes (j := 3) (t := 34) rfl rfl rfl rfl (s_val (v_loadl ty30 rfl rfl rfl rfl) rfl rfl ?_)
        refine g_step_yes (j := 3) (t := 34) rfl rfl rfl rfl (s_callp rfl rfl rfl (bagValid_ok _ _ _ rfl (by assumption)) ?_)
        rintro _ rfl
        refine g_step rfl (s_val (v_pick_t rfl rfl) rfl rfl ?_)
        refine g_step rfl (s_val (v_move rfl) rfl rfl ?_)
        refine g_split 39 rfl (fun hg39 => ?_) (fun hg39 => ?_)
        · try simp only [decide_eq_true_eq, decide_eq_false_iff_not, Bool.not_eq_true', Bool.not_eq_false', Bool.not_eq_eq_eq_not, Bool.not_true, Bool.not_false, Bool.and_eq_true, Bool.or_eq_true, Bool.or_eq_false_iff, beq_iff_eq, beq_eq_false_iff_ne, ne_eq, Int.not_lt, Int.not_le, Decidable.not_not] at hg39
          refine g_step_yes (j := 8) (t := 39) rfl rfl rfl rfl (s_fieldAddr ty32 fo32_4 ty4 rfl rfl ?_)
          refine g_step_yes (j := 8) (t := 39) rfl rfl rfl rfl (s_val (v_loadl ty4 rfl rfl rfl rfl) rfl rfl ?_)
          refine g_step_yes (j := 8) (t := 39) rfl rfl rfl rfl (s_val (v_not rfl) rfl rfl ?_)
          refine g_step_yes (j := 8) (t := 39) rfl rfl rfl rfl (s_val (v_move rfl) rfl rfl ?_)
          refine g_split 43 rfl (fun hg43 => ?_) (fun hg43 => ?_)
          · try simp only [decide_eq_true_eq, decide_eq_false_iff_not, Bool.not_eq_true', Bool.not_eq_false', Bool.not_eq_eq_eq_not, Bool.not_true, Bool.not_false, Bool.and_eq_true, Bool.or_eq_true, Bool.or_eq_false_iff, beq_iff_eq, beq_eq_false_iff_ne, ne_eq, Int.not_lt, Int.not_le, Decidable.not_not] at hg43
            refine g_step_no (j := 12) (t := 43) rfl rfl rfl rfl rfl rfl rfl ?_
            refine g_step_no (j := 12) (t := 43) rfl rfl rfl rfl rfl rfl rfl ?_
            refine g_step_no (j := 12) (t := 43) rfl rfl rfl rfl rfl rfl rfl ?_
            refine g_step_no (j := 12) (t := 43) rfl rfl rfl rfl rfl rfl rfl ?_
            refine g_step_yes (j := 8) (t := 39) rfl rfl rfl rfl (s_val (v_pick_t rfl rfl) rfl rfl ?_)
            refine g_step rfl (s_val (v_pick_t rfl rfl) rfl rfl ?_)
            refine g_step rfl (s_val (v_assign rfl) rfl rfl ?_)
            refine g_nil ?_
            refine g_next hK3 ?_
            refine g_ret ?_
            refine g_end1 (.inl rfl) Try.results29 (.tmp rfl) [] (ASub.refl _) (AHeap.sub_refl _) (fun p hp => by cases hp) ⟨rfl, ?_⟩
            first | (rw [hc30] at hu; simp only [Bool.false_eq, Bool.not_eq_false'] at hu; rw [recValid, hu]; first | (simp_all; done) | (congr 1; rw [Bool.eq_iff_iff]; simp_all <;> omega); done) | (rw [hc30] at hu; simp only [Bool.false_eq, Bool.not_eq_false'] at hu; rw [recValid, hu]; first | (simp_all; done) | (congr 1; rw [Bool.eq_iff_iff]; simp_all <;> omega); rfl)
          · try simp only [decide_eq_true_eq, decide_eq_false_iff_not, Bool.not_eq_true', Bool.not_eq_false', Bool.not_eq_eq_eq_not, Bool.not_true, Bool.not_false, Bool.and_eq_true, Bool.or_eq_true, Bool.or_eq_false_iff, beq_iff_eq, beq_eq_false_iff_ne, ne_eq, Int.not_lt, Int.not_le, Decidable.not_not] at hg43
            refine g_step_yes (j := 12) (t := 43) rfl rfl rfl rfl (s_fieldAddr ty32 fo32_5 ty30 rfl rfl ?_)
            refine g_step_yes (j := 12) (t := 43) rfl rfl rfl rfl (s_val (v_loadl ty30 rfl rfl rfl rfl) rfl rfl ?_)
            refine g_step_yes (j := 12) (t := 43) rfl rfl rfl rfl (s_val (v_len ty30 rfl (by first | rfl | assumption) (by first | exact List.length_map .. | rfl)) rfl rfl ?_)
            refine g_step_yes (j := 12) (t := 43) rfl rfl rfl rfl (s_val (v_eql rfl rfl) rfl rfl ?_)
            refine g_step_yes (j := 8) (t := 39) rfl rfl rfl rfl (s_val (v_pick_f rfl rfl) rfl rfl ?_)
            refine g_step rfl (s_val (v_pick_t rfl rfl) rfl rfl ?_)
            refine g_step rfl (s_val (v_assign rfl) rfl rfl ?_)
            refine g_nil ?_
            refine g_next hK3 ?_
            refine g_ret ?_
            refine g_end1 (.inl rfl) Try.results29 (.tmp rfl) [] (ASub.refl _) (AHeap.sub_refl _) (fun p hp => by cases hp) ⟨rfl, ?_⟩
            first | (rw [hc30] at hu; simp only [Bool.false_eq, Bool.not_eq_false'] at hu; rw [recValid, hu]; first | (simp_all; done) | (congr 1; rw [Bool.eq_iff_iff]; simp_all <;> omega); done) | (rw [hc30] at hu; simp only [Bool.false_eq, Bool.not_eq_false'] at hu; rw [recValid, hu]; first | (simp_all; done) | (congr 1; rw [Bool.eq_iff_iff]; simp_all <;> omega); rfl)
        · try simp only [decide_eq_true_eq, decide_eq_false_iff_not, Bool.not_eq_true', Bool.not_eq_false', Bool.not_eq_eq_eq_not, Bool.not_true, Bool.not_false, Bool.and_eq_true, Bool.or_eq_true, Bool.or_eq_false_iff, beq_iff_eq, beq_eq_false_iff_ne, ne_eq, Int.not_lt, Int.not_le, Decidable.not_not] at hg39
          refine g_step_no (j := 8) (t := 39) rfl rfl rfl rfl rfl rfl rfl ?_
          refine g_step_no (j := 8) (t := 39) rfl rfl rfl rfl rfl rfl rfl ?_
          refine g_step_no (j := 8) (t := 39) rfl rfl rfl rfl rfl rfl rfl ?_
          refine g_step_no (j := 8) (t := 39) rfl rfl rfl rfl rfl rfl rfl ?_
          refine g_step_und (j := 12) (t := 43) rfl rfl rfl rfl rfl rfl ?_
          refine g_step_und (j := 12) (t := 43) rfl rfl rfl rfl rfl rfl ?_
          refine g_step_und (j := 12) (t := 43) rfl rfl rfl rfl rfl rfl ?_
          refine g_step_und (j := 12) (t := 43) rfl rfl rfl rfl rfl rfl ?_
          refine g_step_no (j := 8) (t := 39) rfl rfl rfl rfl rfl rfl rfl ?_
          refine g_step rfl (s_val (v_pick_f rfl rfl) rfl rfl ?_)
          refine g_step rfl (s_val (v_assign rfl) rfl rfl ?_)
          refine g_nil ?_
          refine g_next hK3 ?_
          refine g_ret ?_
          refine g_end1 (.inl rfl) Try.results29 (.tmp rfl) [] (ASub.refl _) (AHeap.sub_refl _) (fun p hp => by cases hp) ⟨rfl, ?_⟩
          first | (rw [hc30] at hu; simp only [Bool.false_eq, Bool.not_eq_false'] at hu; rw [recValid, hu]; first | (simp_all; done) | (congr 1; rw [Bool.eq_iff_iff]; simp_all <;> omega); done) | (rw [hc30] at hu; simp only [Bool.false_eq, Bool.not_eq_false'] at hu; rw [recValid, hu]; first | (simp_all; done) | (congr 1; rw [Bool.eq_iff_iff]; simp_all <;> omega); rfl)
      · try simp only [decide_eq_true_eq, decide_eq_false_iff_not, Bool.not_eq_true', Bool.not_eq_false', Bool.not_eq_eq_eq_not, Bool.not_true, Bool.not_false, Bool.and_eq_true, Bool.or_eq_true, Bool.or_eq_false_iff, beq_iff_eq, beq_eq_false_iff_ne, ne_eq, Int.not_lt, Int.not_le, Decidable.not_not] at hg34
        refine g_step_no (j := 3) (t := 34) rfl rfl rfl rfl rfl rfl rfl ?_
        refine g_step_no (j := 3) (t := 34) rfl rfl rfl rfl rfl rfl rfl ?_
        refine g_step_no (j := 3) (t := 34) rfl rfl rfl rfl rfl rfl rfl ?_
        refine g_step rfl (s_val (v_pick_f rfl rfl) rfl rfl ?_)
        refine g_step rfl (s_val (v_move rfl) rfl rfl ?_)
        refine g_step_no (j := 8) (t := 39) rfl rfl rfl rfl rfl rfl rfl ?_
        refine g_step_no (j := 8) (t := 39) rfl rfl rfl rfl rfl rfl rfl ?_
        refine g_step_no (j := 8) (t := 39) rfl rfl rfl rfl rfl rfl rfl ?_
        refine g_step_no (j := 8) (t := 39) rfl rfl rfl rfl rfl rfl rfl ?_
        refine g_step_und (j := 12) (t := 43) rfl rfl rfl rfl rfl rfl ?_
        refine g_step_und (j := 12) (t := 43) rfl rfl rfl rfl rfl rfl ?_
        refine g_step_und (j := 12) (t := 43) rfl rfl rfl rfl rfl rfl ?_
        refine g_step_und (j := 12) (t := 43) rfl rfl rfl rfl rfl rfl ?_
        refine g_step_no (j := 8) (t := 39) rfl rfl rfl rfl rfl rfl rfl ?_
        refine g_step rfl (s_val (v_pick_f rfl rfl) rfl rfl ?_)
        refine g_step rfl (s_val (v_assign rfl) rfl rfl ?_)
        refine g_nil ?_
        refine g_next hK3 ?_
        refine g_ret ?_
        refine g_end1 (.inl rfl) Try.results29 (.tmp rfl) [] (ASub.refl _) (AHeap.sub_refl _) (fun p hp => by cases hp) ⟨rfl, ?_⟩
        first | (rw [hc30] at hu; simp only [Bool.false_eq, Bool.not_eq_false'] at hu; rw [recValid, hu]; first | (simp_all; done) | (congr 1; rw [Bool.eq_iff_iff]; simp_all <;> omega); done) | (rw [hc30] at hu; simp only [Bool.false_eq, Bool.not_eq_false'] at hu; rw [recValid, hu]; first | (simp_all; done) | (congr 1; rw [Bool.eq_iff_iff]; simp_all <;> omega); rfl)

theorem recWeighs_ok (a b : Rc) (hha : Held a.bag) (hhb : Held b.bag) (G : AHeap) : PCalls Try.prog 5 [encR a, encR b] G (fun v => v = .bool true) := by
  refine LCalls.intro 68 fi5 rfl Try.ntmps5 rfl (fun _ h => h.elim) (fun H hH w0 hw0 => ?_)
  refine g_seq (fun K0 hK0 => ?_)
  refine g_region ?_
  refine g_step rfl (s_box rfl rfl rfl rfl ?_)
  refine g_step rfl (s_box rfl rfl rfl rfl ?_)
  refine g_step rfl (s_val (v_assign rfl) rfl rfl ?_)
  refine g_nil ?_
  refine g_next hK0 ?_
  refine g_seq (fun K1 hK1 => ?_)
  refine g_seq (fun K2 hK2 => ?_)
  refine g_region ?_
  refine g_step rfl (s_val (by first | exact v_loadl_all ty32 rfl rfl rfl rfl rfl | exact v_loadl_part (cs := [_, _, _, _, _, _, _]) ty32 rfl rfl rfl rfl rfl rfl) rfl rfl ?_)
  refine g_step rfl (s_val (by first | exact v_loadl_all ty32 rfl rfl rfl rfl rfl | exact v_loadl_part (cs := [_, _, _, _, _, _, _]) ty32 rfl rfl rfl rfl rfl rfl) rfl rfl ?_)
  refine g_step rfl (s_lit ty34 ty32 rfl rfl rfl rfl rfl rfl rfl ?_)
  refine g_step rfl (s_callp rfl rfl rfl (fewL_ok [a, b] _ _ rfl (by simp [hha, hhb]) (by simp)) ?_)
  rintro _ rfl
  refine g_step rfl (s_val (v_not rfl) rfl rfl ?_)
  refine g_nil ?_
  refine g_next hK2 ?_
  refine g_cond rfl (fun hc11 => ?_) (fun hc11 => ?_)
  · try simp only [decide_eq_true_eq, decide_eq_false_iff_not, Bool.not_eq_true', Bool.not_eq_false', Bool.not_eq_eq_eq_not, Bool.not_true, Bool.not_false, Bool.and_eq_true, Bool.or_eq_true, Bool.or_eq_false_iff, beq_iff_eq, beq_eq_false_iff_ne, ne_eq, Int.not_lt, Int.not_le, Decidable.not_not] at hc11
    refine g_seq (fun K3 hK3 => ?_)
    refine g_region ?_
    refine g_step rfl (s_callp rfl rfl rfl (awake08_ok _) ?_)
    rintro _ rfl
    refine g_step rfl (s_val (v_assign rfl) rfl rfl ?_)
    refine g_nil ?_
    refine g_next hK3 ?_
    refine g_ret ?_
    refine g_then_ret ?_
    refine g_end1 (.inl rfl) Try.results5 (.tmp rfl) [] (ASub.refl _) (AHeap.sub_refl _) (fun p hp => by cases hp) ⟨rfl, ?_⟩
    rfl
  · try simp only [decide_eq_true_eq, decide_eq_false_iff_not, Bool.not_eq_true', Bool.not_eq_false', Bool.not_eq_eq_eq_not, Bool.not_true, Bool.not_false, Bool.and_eq_true, Bool.or_eq_true, Bool.or_eq_false_iff, beq_iff_eq, beq_eq_false_iff_ne, ne_eq, Int.not_lt, Int.not_le, Decidable.not_not] at hc11
    have hf : few a.bag = true ∧ few b.bag = true := by simpa [fewL] using hc11
    have hsa := (few_small hf.1).1
    have hsb := (few_small hf.2).1
    have hwr := weigh_range a b
    have hwn := weigh_neg a b
    have hwz := weigh_zero a b
    refine g_skip ?_
    refine g_next hK1 ?_
    refine g_seq (fun K4 hK4 => ?_)
    refine g_region ?_
    refine g_step rfl (s_val (by first | exact v_loadl_all ty32 rfl rfl rfl rfl rfl | exact v_loadl_part (cs := [_, _, _, _, _, _, _]) ty32 rfl rfl rfl rfl rfl rfl) rfl rfl ?_)
    refine g_step rfl (s_val (by first | exact v_loadl_all ty32 rfl rfl rfl rfl rfl | exact v_loadl_part (cs := [_, _, _, _, _, _, _]) ty32 rfl rfl rfl rfl rfl rfl) rfl rfl ?_)
    refine g_step rfl (s_callp rfl rfl rfl (weigh_ok a b _ hsa) ?_)
    rintro _ rfl
    refine g_step rfl (s_val (v_assign rfl) rfl rfl ?_)
    refine g_nil ?_
    refine g_next hK4 ?_
    refine g_seq (fun K5 hK5 => ?_)
    refine g_region ?_
    refine g_step rfl (s_fieldAddr ty32 fo32_4 ty4 rfl rfl ?_)
    refine g_step rfl (s_val (v_loadl ty4 rfl rfl rfl rfl) rfl rfl ?_)
    refine g_step rfl (s_fieldAddr ty32 fo32_4 ty4 rfl rfl ?_)
    refine g_step rfl (s_val (v_loadl ty4 rfl rfl rfl rfl) rfl rfl ?_)
    refine g_step rfl (s_val (v_bool_eql ty4 rfl rfl) rfl rfl ?_)
    refine g_step rfl (s_val (v_move rfl) rfl rfl ?_)
    refine g_split 21 rfl (fun hg21 => ?_) (fun hg21 => ?_)
    · try simp only [decide_eq_true_eq, decide_eq_false_iff_not, Bool.not_eq_true', Bool.not_eq_false', Bool.not_eq_eq_eq_not, Bool.not_true, Bool.not_false, Bool.and_eq_true, Bool.or_eq_true, Bool.or_eq_false_iff, beq_iff_eq, beq_eq_false_iff_ne, ne_eq, Int.not_lt, Int.not_le, Decidable.not_not] at hg21
      refine g_step_yes (j := 5) (t := 21) rfl rfl rfl rfl (s_fieldAddr ty32 fo32_3 ty29 rfl rfl ?_)
      refine g_step_yes (j := 5) (t := 21) rfl rfl rfl rfl (s_fieldAddr ty29 fo29_0 ty3 rfl rfl ?_)
      refine g_step_yes (j := 5) (t := 21) rfl rfl rfl rfl (s_val (v_loadl ty3 rfl rfl rfl rfl) rfl rfl ?_)
      refine g_step_yes (j := 5) (t := 21) rfl rfl rfl rfl (s_fieldAddr ty32 fo32_3 ty29 rfl rfl ?_)
      refine g_step_yes (j := 5) (t := 21) rfl rfl rfl rfl (s_fieldAddr ty29 fo29_0 ty3 rfl rfl ?_)
      refine g_step_yes (j := 5) (t := 21) rfl rfl rfl rfl (s_val (v_loadl ty3 rfl rfl rfl rfl) rfl rfl ?_)
      refine g_step_yes (j := 5) (t := 21) rfl rfl rfl rfl (s_val (v_eql rfl rfl) rfl rfl ?_)
      refine g_step rfl (s_val (v_pick_t rfl rfl) rfl rfl ?_)
      refine g_step rfl (s_val (v_move rfl) rfl rfl ?_)
      refine g_split 30 rfl (fun hg30 => ?_) (fun hg30 => ?_)
      · try simp only [decide_eq_true_eq, decide_eq_false_iff_not, Bool.not_eq_true', Bool.not_eq_false', Bool.not_eq_eq_eq_not, Bool.not_true, Bool.not_false, Bool.and_eq_true, Bool.or_eq_true, Bool.or_eq_false_iff, beq_iff_eq, beq_eq_false_iff_ne, ne_eq, Int.not_lt, Int.not_le, Decidable.not_not] at hg30
        refine g_step_yes (j := 14) (t := 30) rfl rfl rfl rfl (s_fieldAddr ty32 fo32_3 ty29 rfl rfl ?_)
        refine g_step_yes (j := 14) (t := 30) rfl rfl rfl rfl (s_fieldAddr ty29 fo29_1 ty3 rfl rfl ?_)
        refine g_step_yes (j := 14) (t := 30) rfl rfl rfl rfl (s_val (v_loadl ty3 rfl rfl rfl rfl) rfl rfl ?_)
        refine g_step_yes (j := 14) (t := 30) rfl rfl rfl rfl (s_fieldAddr ty32 fo32_3 ty29 rfl rfl ?_)
        refine g_step_yes (j := 14) (t := 30) rfl rfl rfl rfl (s_fieldAddr ty29 fo29_1 ty3 rfl rfl ?_)
        refine g_step_yes (j := 14) (t := 30) rfl rfl rfl rfl (s_val (v_loadl ty3 rfl rfl rfl rfl) rfl rfl ?_)
        refine g_step_yes (j := 14) (t := 30) rfl rfl rfl rfl (s_val (v_eql rfl rfl) rfl rfl ?_)
        refine g_step rfl (s_val (v_pick_t rfl rfl) rfl rfl ?_)
        refine g_step rfl (s_val (v_move rfl) rfl rfl ?_)
        refine g_split 39 rfl (fun hg39 => ?_) (fun hg39 => ?_)
        · try simp only [decide_eq_true_eq, decide_eq_false_iff_not, Bool.not_eq_true', Bool.not_eq_false', Bool.not_eq_eq_eq_not, Bool.not_true, Bool.not_false, Bool.and_eq_true, Bool.or_eq_true, Bool.or_eq_false_iff, beq_iff_eq, beq_eq_false_iff_ne, ne_eq, Int.not_lt, Int.not_le, Decidable.not_not] at hg39
          refine g_step_yes (j := 23) (t := 39) rfl rfl rfl rfl (s_fieldAddr ty32 fo32_5 ty30 rfl rfl ?_)
          refine g_step_yes (j := 23) (t := 39) rfl rfl rfl rfl (s_val (v_loadl ty30 rfl rfl rfl rfl) rfl rfl ?_)
          refine g_step_yes (j := 23) (t := 39) rfl rfl rfl rfl (s_fieldAddr ty32 fo32_5 ty30 rfl rfl ?_)
          refine g_step_yes (j := 23) (t := 39) rfl rfl rfl rfl (s_val (v_loadl ty30 rfl rfl rfl rfl) rfl rfl ?_)
          refine g_step_yes (j := 23) (t := 39) rfl rfl rfl rfl (s_callp rfl rfl rfl (bagSame_ok a.bag b.bag _ _ _ rfl rfl hsa) ?_)
          rintro _ rfl
          refine g_step rfl (s_val (v_pick_t rfl rfl) rfl rfl ?_)
          refine g_step rfl (s_val (v_assign rfl) rfl rfl ?_)
          refine g_nil ?_
          refine g_next hK5 ?_
          refine g_keep [5, 6] [2, 3] [2, 3] rfl rfl rfl rfl ?_
          refine g_seq (fun K6 hK6 => ?_)
          refine g_region ?_
          refine g_step rfl (s_val (v_move rfl) rfl rfl ?_)
          refine g_step rfl (s_val (by first | exact v_loadl_all ty32 rfl rfl rfl rfl rfl | exact v_loadl_part (cs := [_, _, _, _, _, _, _]) ty32 rfl rfl rfl rfl rfl rfl) rfl rfl ?_)
          refine g_step rfl (s_val (by first | exact v_loadl_all ty32 rfl rfl rfl rfl rfl | exact v_loadl_part (cs := [_, _, _, _, _, _, _]) ty32 rfl rfl rfl rfl rfl rfl) rfl rfl ?_)
          refine g_step rfl (s_callp rfl rfl rfl (weigh08_ok a b _ hsa) ?_)
          rintro _ rfl
          refine g_step rfl (s_val (v_eql rfl rfl) rfl rfl ?_)
          refine g_step rfl (s_val (v_move rfl) rfl rfl ?_)
          refine g_split 51 rfl (fun hg51 => ?_) (fun hg51 => ?_)
          · try simp only [decide_eq_true_eq, decide_eq_false_iff_not, Bool.not_eq_true', Bool.not_eq_false', Bool.not_eq_eq_eq_not, Bool.not_true, Bool.not_false, Bool.and_eq_true, Bool.or_eq_true, Bool.or_eq_false_iff, beq_iff_eq, beq_eq_false_iff_ne, ne_eq, Int.not_lt, Int.not_le, Decidable.not_not] at hg51
            refine g_step_yes (j := 5) (t := 51) rfl rfl rfl rfl (s_val (by first | exact v_loadl_all ty32 rfl rfl rfl rfl rfl | exact v_loadl_part (cs := [_, _, _, _, _, _, _]) ty32 rfl rfl rfl rfl rfl rfl) rfl rfl ?_)
            refine g_step_yes (j := 5) (t := 51) rfl rfl rfl rfl (s_val (by first | exact v_loadl_all ty32 rfl rfl rfl rfl rfl | exact v_loadl_part (cs := [_, _, _, _, _, _, _]) ty32 rfl rfl rfl rfl rfl rfl) rfl rfl ?_)
            refine g_step_yes (j := 5) (t := 51) rfl rfl rfl rfl (s_callp rfl rfl rfl (weigh_ok b a _ hsb) ?_)
            rintro _ rfl
            refine g_step_yes (j := 5) (t := 51) rfl rfl rfl rfl (s_val (v_move rfl) rfl rfl ?_)
            refine g_step_yes (j := 5) (t := 51) rfl rfl rfl rfl (s_val (v_neg rfl (by omega)) rfl rfl ?_)
            refine g_step_yes (j := 5) (t := 51) rfl rfl rfl rfl (s_val (v_eql rfl rfl) rfl rfl ?_)
            refine g_step rfl (s_val (v_pick_t rfl rfl) rfl rfl ?_)
            refine g_step rfl (s_val (v_move rfl) rfl rfl ?_)
            refine g_split 59 rfl (fun hg59 => ?_) (fun hg59 => ?_)
            · try simp only [decide_eq_true_eq, decide_eq_false_iff_not, Bool.not_eq_true', Bool.not_eq_false', Bool.not_eq_eq_eq_not, Bool.not_true, Bool.not_false, Bool.and_eq_true, Bool.or_eq_true, Bool.or_eq_false_iff, beq_iff_eq, beq_eq_false_iff_ne, ne_eq, Int.not_lt, Int.not_le, Decidable.not_not] at hg59
              refine g_step_yes (j := 13) (t := 59) rfl rfl rfl rfl (s_val (v_move rfl) rfl rfl ?_)
              refine g_step_yes (j := 13) (t := 59) rfl rfl rfl rfl (s_val (v_eql rfl rfl) rfl rfl ?_)
              refine g_step_yes (j := 13) (t := 59) rfl rfl rfl rfl (s_val (v_move rfl) rfl rfl ?_)
              refine g_step_yes (j := 13) (t := 59) rfl rfl rfl rfl (s_val (v_bool_eql ty4 rfl rfl) rfl rfl ?_)
              refine g_step rfl (s_val (v_pick_t rfl rfl) rfl rfl ?_)
              refine g_step rfl (s_val (v_move rfl) rfl rfl ?_)
              refine g_split 65 rfl (fun hg65 => ?_) (fun hg65 => ?_)
              · try simp only [decide_eq_true_eq, decide_eq_false_iff_not, Bool.not_eq_true', Bool.not_eq_false', Bool.not_eq_eq_eq_not, Bool.not_true, Bool.not_false, Bool.and_eq_true, Bool.or_eq_true, Bool.or_eq_false_iff, beq_iff_eq, beq_eq_false_iff_ne, ne_eq, Int.not_lt, Int.not_le, Decidable.not_not] at hg65
                refine g_step_yes (j := 19) (t := 65) rfl rfl rfl rfl (s_callp rfl rfl rfl (awake08_ok _) ?_)
                rintro _ rfl
                refine g_step rfl (s_val (v_pick_t rfl rfl) rfl rfl ?_)
                refine g_step rfl (s_val (v_assign rfl) rfl rfl ?_)
                refine g_nil ?_
                refine g_next hK6 ?_
                refine g_keep [4] [] [] rfl rfl rfl rfl ?_
                refine g_ret ?_
                refine g_end1 (.inl rfl) Try.results5 (.tmp rfl) [] (ASub.refl _) (AHeap.sub_refl _) (fun p hp => by cases hp) ⟨rfl, ?_⟩
                rfl
              · exfalso; (try simp only [decide_eq_true_eq, decide_eq_false_iff_not, Bool.not_eq_true', Bool.not_eq_false', Bool.not_eq_eq_eq_not, Bool.not_true, Bool.not_false, Bool.and_eq_true, Bool.or_eq_true, Bool.or_eq_false_iff, beq_iff_eq, beq_eq_false_iff_ne, ne_eq, Int.not_lt, Int.not_le, Decidable.not_not] at hg65); obtain ⟨_, _, _, ⟨_, _⟩, _, _⟩ := a; obtain ⟨_, _, _, ⟨_, _⟩, _, _⟩ := b; simp_all
            · exfalso; (try simp only [decide_eq_true_eq, decide_eq_false_iff_not, Bool.not_eq_true', Bool.not_eq_false', Bool.not_eq_eq_eq_not, Bool.not_true, Bool.not_false, Bool.and_eq_true, Bool.or_eq_true, Bool.or_eq_false_iff, beq_iff_eq, beq_eq_false_iff_ne, ne_eq, Int.not_lt, Int.not_le, Decidable.not_not] at hg59); simp [hwn] at hg59
          · exfalso; (try simp only [decide_eq_true_eq, decide_eq_false_iff_not, Bool.not_eq_true', Bool.not_eq_false', Bool.not_eq_eq_eq_not, Bool.not_true, Bool.not_false, Bool.and_eq_true, Bool.or_eq_true, Bool.or_eq_false_iff, beq_iff_eq, beq_eq_false_iff_ne, ne_eq, Int.not_lt, Int.not_le, Decidable.not_not] at hg51); simp at hg51
        · try simp only [decide_eq_true_eq, decide_eq_false_iff_not, Bool.not_eq_true', Bool.not_eq_false', Bool.not_eq_eq_eq_not, Bool.not_true, Bool.not_false, Bool.and_eq_true, Bool.or_eq_true, Bool.or_eq_false_iff, beq_iff_eq, beq_eq_false_iff_ne, ne_eq, Int.not_lt, Int.not_le, Decidable.not_not] at hg39
          refine g_step_no (j := 23) (t := 39) rfl rfl rfl rfl rfl rfl rfl ?_
          refine g_step_no (j := 23) (t := 39) rfl rfl rfl rfl rfl rfl rfl ?_
          refine g_step_no (j := 23) (t := 39) rfl rfl rfl rfl rfl rfl rfl ?_
          refine g_step_no (j := 23) (t := 39) rfl rfl rfl rfl rfl rfl rfl ?_
          refine g_step_no (j := 23) (t := 39) rfl rfl rfl rfl rfl rfl rfl ?_
          refine g_step rfl (s_val (v_pick_f rfl rfl) rfl rfl ?_)
          refine g_step rfl (s_val (v_assign rfl) rfl rfl ?_)
          refine g_nil ?_
          refine g_next hK5 ?_
          refine g_keep [5, 6] [2, 3] [2, 3] rfl rfl rfl rfl ?_
          refine g_seq (fun K7 hK7 => ?_)
          refine g_region ?_
          refine g_step rfl (s_val (v_move rfl) rfl rfl ?_)
          refine g_step rfl (s_val (by first | exact v_loadl_all ty32 rfl rfl rfl rfl rfl | exact v_loadl_part (cs := [_, _, _, _, _, _, _]) ty32 rfl rfl rfl rfl rfl rfl) rfl rfl ?_)
          refine g_step rfl (s_val (by first | exact v_loadl_all ty32 rfl rfl rfl rfl rfl | exact v_loadl_part (cs := [_, _, _, _, _, _, _]) ty32 rfl rfl rfl rfl rfl rfl) rfl rfl ?_)
          refine g_step rfl (s_callp rfl rfl rfl (weigh08_ok a b _ hsa) ?_)
          rintro _ rfl
          refine g_step rfl (s_val (v_eql rfl rfl) rfl rfl ?_)
          refine g_step rfl (s_val (v_move rfl) rfl rfl ?_)
          refine g_split 51 rfl (fun hg51 => ?_) (fun hg51 => ?_)
          · try simp only [decide_eq_true_eq, decide_eq_false_iff_not, Bool.not_eq_true', Bool.not_eq_false', Bool.not_eq_eq_eq_not, Bool.not_true, Bool.not_false, Bool.and_eq_true, Bool.or_eq_true, Bool.or_eq_false_iff, beq_iff_eq, beq_eq_false_iff_ne, ne_eq, Int.not_lt, Int.not_le, Decidable.not_not] at hg51
            refine g_step_yes (j := 5) (t := 51) rfl rfl rfl rfl (s_val (by first | exact v_loadl_all ty32 rfl rfl rfl rfl rfl | exact v_loadl_part (cs := [_, _, _, _, _, _, _]) ty32 rfl rfl rfl rfl rfl rfl) rfl rfl ?_)
            refine g_step_yes (j := 5) (t := 51) rfl rfl rfl rfl (s_val (by first | exact v_loadl_all ty32 rfl rfl rfl rfl rfl | exact v_loadl_part (cs := [_, _, _, _, _, _, _]) ty32 rfl rfl rfl rfl rfl rfl) rfl rfl ?_)
            refine g_step_yes (j := 5) (t := 51) rfl rfl rfl rfl (s_callp rfl rfl rfl (weigh_ok b a _ hsb) ?_)
            rintro _ rfl
            refine g_step_yes (j := 5) (t := 51) rfl rfl rfl rfl (s_val (v_move rfl) rfl rfl ?_)
            refine g_step_yes (j := 5) (t := 51) rfl rfl rfl rfl (s_val (v_neg rfl (by omega)) rfl rfl ?_)
            refine g_step_yes (j := 5) (t := 51) rfl rfl rfl rfl (s_val (v_eql rfl rfl) rfl rfl ?_)
            refine g_step rfl (s_val (v_pick_t rfl rfl) rfl rfl ?_)
            refine g_step rfl (s_val (v_move rfl) rfl rfl ?_)
            refine g_split 59 rfl (fun hg59 => ?_) (fun hg59 => ?_)
            · try simp only [decide_eq_true_eq, decide_eq_false_iff_not, Bool.not_eq_true', Bool.not_eq_false', Bool.not_eq_eq_eq_not, Bool.not_true, Bool.not_false, Bool.and_eq_true, Bool.or_eq_true, Bool.or_eq_false_iff, beq_iff_eq, beq_eq_false_iff_ne, ne_eq, Int.not_lt, Int.not_le, Decidable.not_not] at hg59
              refine g_step_yes (j := 13) (t := 59) rfl rfl rfl rfl (s_val (v_move rfl) rfl rfl ?_)
              refine g_step_yes (j := 13) (t := 59) rfl rfl rfl rfl (s_val (v_eql rfl rfl) rfl rfl ?_)
              refine g_step_yes (j := 13) (t := 59) rfl rfl rfl rfl (s_val (v_move rfl) rfl rfl ?_)
              refine g_step_yes (j := 13) (t := 59) rfl rfl rfl rfl (s_val (v_bool_eql ty4 rfl rfl) rfl rfl ?_)
              refine g_step rfl (s_val (v_pick_t rfl rfl) rfl rfl ?_)
              refine g_step rfl (s_val (v_move rfl) rfl rfl ?_)
              refine g_split 65 rfl (fun hg65 => ?_) (fun hg65 => ?_)
              · try simp only [decide_eq_true_eq, decide_eq_false_iff_not, Bool.not_eq_true', Bool.not_eq_false', Bool.not_eq_eq_eq_not, Bool.not_true, Bool.not_false, Bool.and_eq_true, Bool.or_eq_true, Bool.or_eq_false_iff, beq_iff_eq, beq_eq_false_iff_ne, ne_eq, Int.not_lt, Int.not_le, Decidable.not_not] at hg65
                refine g_step_yes (j := 19) (t := 65) rfl rfl rfl rfl (s_callp rfl rfl rfl (awake08_ok _) ?_)
                rintro _ rfl
                refine g_step rfl (s_val (v_pick_t rfl rfl) rfl rfl ?_)
                refine g_step rfl (s_val (v_assign rfl) rfl rfl ?_)
                refine g_nil ?_
                refine g_next hK7 ?_
                refine g_keep [4] [] [] rfl rfl rfl rfl ?_
                refine g_ret ?_
                refine g_end1 (.inl rfl) Try.results5 (.tmp rfl) [] (ASub.refl _) (AHeap.sub_refl _) (fun p hp => by cases hp) ⟨rfl, ?_⟩
                rfl
              · exfalso; (try simp only [decide_eq_true_eq, decide_eq_false_iff_not, Bool.not_eq_true', Bool.not_eq_false', Bool.not_eq_eq_eq_not, Bool.not_true, Bool.not_false, Bool.and_eq_true, Bool.or_eq_true, Bool.or_eq_false_iff, beq_iff_eq, beq_eq_false_iff_ne, ne_eq, Int.not_lt, Int.not_le, Decidable.not_not] at hg65); obtain ⟨_, _, _, ⟨_, _⟩, _, _⟩ := a; obtain ⟨_, _, _, ⟨_, _⟩, _, _⟩ := b; simp_all
            · exfalso; (try simp only [decide_eq_true_eq, decide_eq_false_iff_not, Bool.not_eq_true', Bool.not_eq_false', Bool.not_eq_eq_eq_not, Bool.not_true, Bool.not_false, Bool.and_eq_true, Bool.or_eq_true, Bool.or_eq_false_iff, beq_iff_eq, beq_eq_false_iff_ne, ne_eq, Int.not_lt, Int.not_le, Decidable.not_not] at hg59); simp [hwn] at hg59
          · exfalso; (try simp only [decide_eq_true_eq, decide_eq_false_iff_not, Bool.not_eq_true', Bool.not_eq_false', Bool.not_eq_eq_eq_not, Bool.not_true, Bool.not_false, Bool.and_eq_true, Bool.or_eq_true, Bool.or_eq_false_iff, beq_iff_eq, beq_eq_false_iff_ne, ne_eq, Int.not_lt, Int.not_le, Decidable.not_not] at hg51); simp at hg51
      · try simp only [decide_eq_true_eq, decide_eq_false_iff_not, Bool.not_eq_true', Bool.not_eq_false', Bool.not_eq_eq_eq_not, Bool.not_true, Bool.not_false, Bool.and_eq_true, Bool.or_eq_true, Bool.or_eq_false_iff, beq_iff_eq, beq_eq_false_iff_ne, ne_eq, Int.not_lt, Int.not_le, Decidable.not_not] at hg30
        refine g_step_no (j := 14) (t := 30) rfl rfl rfl rfl rfl rfl rfl ?_
        refine g_step_no (j := 14) (t := 30) rfl rfl rfl rfl rfl rfl rfl ?_
        refine g_step_no (j := 14) (t := 30) rfl rfl rfl rfl rfl rfl rfl ?_
        refine g_step_no (j := 14) (t := 30) rfl rfl rfl rfl rfl rfl rfl ?_
        refine g_step_no (j := 14) (t := 30) rfl rfl rfl rfl rfl rfl rfl ?_
        refine g_step_no (j := 14) (t := 30) rfl rfl rfl rfl rfl rfl rfl ?_
        refine g_step_no (j := 14) (t := 30) rfl rfl rfl rfl rfl rfl rfl ?_
        refine g_step rfl (s_val (v_pick_f rfl rfl) rfl rfl ?_)
        refine g_step rfl (s_val (v_move rfl) rfl rfl ?_)
        refine g_step_no (j := 23) (t := 39) rfl rfl rfl rfl rfl rfl rfl ?_
        refine g_step_no (j := 23) (t := 39) rfl rfl rfl rfl rfl rfl rfl ?_
        refine g_step_no (j := 23) (t := 39) rfl rfl rfl rfl rfl rfl rfl ?_
        refine g_step_no (j := 23) (t := 39) rfl rfl rfl rfl rfl rfl rfl ?_
        refine g_step_no (j := 23) (t := 39) rfl rfl rfl rfl rfl rfl rfl ?_
        refine g_step rfl (s_val (v_pick_f rfl rfl) rfl rfl ?_)
        refine g_step rfl (s_val (v_assign rfl) rfl rfl ?_)
        refine g_nil ?_
        refine g_next hK5 ?_
        refine g_keep [5, 6] [2, 3] [2, 3] rfl rfl rfl rfl ?_
        refine g_seq (fun K8 hK8 => ?_)
        refine g_region ?_
        refine g_step rfl (s_val (v_move rfl) rfl rfl ?_)
        refine g_step rfl (s_val (by first | exact v_loadl_all ty32 rfl rfl rfl rfl rfl | exact v_loadl_part (cs := [_, _, _, _, _, _, _]) ty32 rfl rfl rfl rfl rfl rfl) rfl rfl ?_)
        refine g_step rfl (s_val (by first | exact v_loadl_all ty32 rfl rfl rfl rfl rfl | exact v_loadl_part (cs := [_, _, _, _, _, _, _]) ty32 rfl rfl rfl rfl rfl rfl) rfl rfl ?_)
        refine g_step rfl (s_callp rfl rfl rfl (weigh08_ok a b _ hsa) ?_)
        rintro _ rfl
        refine g_step rfl (s_val (v_eql rfl rfl) rfl rfl ?_)
        refine g_step rfl (s_val (v_move rfl) rfl rfl ?_)
        refine g_split 51 rfl (fun hg51 => ?_) (fun hg51 => ?_)
        · try simp only [decide_eq_true_eq, decide_eq_false_iff_not, Bool.not_eq_true', Bool.not_eq_false', Bool.not_eq_eq_eq_not, Bool.not_true, Bool.not_false, Bool.and_eq_true, Bool.or_eq_true, Bool.or_eq_false_iff, beq_iff_eq, beq_eq_false_iff_ne, ne_eq, Int.not_lt, Int.not_le, Decidable.not_not] at hg51
          refine g_step_yes (j := 5) (t := 51) rfl rfl rfl rfl (s_val (by first | exact v_loadl_all ty32 rfl rfl rfl rfl rfl | exact v_loadl_part (cs := [_, _, _, _, _, _, _]) ty32 rfl rfl rfl rfl rfl rfl) rfl rfl ?_)
          refine g_step_yes (j := 5) (t := 51) rfl rfl rfl rfl (s_val (by first | exact v_loadl_all ty32 rfl rfl rfl rfl rfl | exact v_loadl_part (cs := [_, _, _, _, _, _, _]) ty32 rfl rfl rfl rfl rfl rfl) rfl rfl ?_)
          refine g_step_yes (j := 5) (t := 51) rfl rfl rfl rfl (s_callp rfl rfl rfl (weigh_ok b a _ hsb) ?_)
          rintro _ rfl
          refine g_step_yes (j := 5) (t := 51) rfl rfl rfl rfl (s_val (v_move rfl) rfl rfl ?_)
          refine g_step_yes (j := 5) (t := 51) rfl rfl rfl rfl (s_val (v_neg rfl (by omega)) rfl rfl ?_)
          refine g_step_yes (j := 5) (t := 51) rfl rfl rfl rfl (s_val (v_eql rfl rfl) rfl rfl ?_)
          refine g_step rfl (s_val (v_pick_t rfl rfl) rfl rfl ?_)
          refine g_step rfl (s_val (v_move rfl) rfl rfl ?_)
          refine g_split 59 rfl (fun hg59 => ?_) (fun hg59 => ?_)
          · try simp only [decide_eq_true_eq, decide_eq_false_iff_not, Bool.not_eq_true', Bool.not_eq_false', Bool.not_eq_eq_eq_not, Bool.not_true, Bool.not_false, Bool.and_eq_true, Bool.or_eq_true, Bool.or_eq_false_iff, beq_iff_eq, beq_eq_false_iff_ne, ne_eq, Int.not_lt, Int.not_le, Decidable.not_not] at hg59
            refine g_step_yes (j := 13) (t := 59) rfl rfl rfl rfl (s_val (v_move rfl) rfl rfl ?_)
            refine g_step_yes (j := 13) (t := 59) rfl rfl rfl rfl (s_val (v_eql rfl rfl) rfl rfl ?_)
            refine g_step_yes (j := 13) (t := 59) rfl rfl rfl rfl (s_val (v_move rfl) rfl rfl ?_)
            refine g_step_yes (j := 13) (t := 59) rfl rfl rfl rfl (s_val (v_bool_eql ty4 rfl rfl) rfl rfl ?_)
            refine g_step rfl (s_val (v_pick_t rfl rfl) rfl rfl ?_)
            refine g_step rfl (s_val (v_move rfl) rfl rfl ?_)
            refine g_split 65 rfl (fun hg65 => ?_) (fun hg65 => ?_)
            · try simp only [decide_eq_true_eq, decide_eq_false_iff_not, Bool.not_eq_true', Bool.not_eq_false', Bool.not_eq_eq_eq_not, Bool.not_true, Bool.not_false, Bool.and_eq_true, Bool.or_eq_true, Bool.or_eq_false_iff, beq_iff_eq, beq_eq_false_iff_ne, ne_eq, Int.not_lt, Int.not_le, Decidable.not_not] at hg65
              refine g_step_yes (j := 19) (t := 65) rfl rfl rfl rfl (s_callp rfl rfl rfl (awake08_ok _) ?_)
              rintro _ rfl
              refine g_step rfl (s_val (v_pick_t rfl rfl) rfl rfl ?_)
              refine g_step rfl (s_val (v_assign rfl) rfl rfl ?_)
              refine g_nil ?_
              refine g_next hK8 ?_
              refine g_keep [4] [] [] rfl rfl rfl rfl ?_
              refine g_ret ?_
              refine g_end1 (.inl rfl) Try.results5 (.tmp rfl) [] (ASub.refl _) (AHeap.sub_refl _) (fun p hp => by cases hp) ⟨rfl, ?_⟩
              rfl
            · exfalso; (try simp only [decide_eq_true_eq, decide_eq_false_iff_not, Bool.not_eq_true', Bool.not_eq_false', Bool.not_eq_eq_eq_not, Bool.not_true, Bool.not_false, Bool.and_eq_true, Bool.or_eq_true, Bool.or_eq_false_iff, beq_iff_eq, beq_eq_false_iff_ne, ne_eq, Int.not_lt, Int.not_le, Decidable.not_not] at hg65); obtain ⟨_, _, _, ⟨_, _⟩, _, _⟩ := a; obtain ⟨_, _, _, ⟨_, _⟩, _, _⟩ := b; simp_all
          · exfalso; (try simp only [decide_eq_true_eq, decide_eq_false_iff_not, Bool.not_eq_true', Bool.not_eq_false', Bool.not_eq_eq_eq_not, Bool.not_true, Bool.not_false, Bool.and_eq_true, Bool.or_eq_true, Bool.or_eq_false_iff, beq_iff_eq, beq_eq_false_iff_ne, ne_eq, Int.not_lt, Int.not_le, Decidable.not_not] at hg59); simp [hwn] at hg59
        · exfalso; (try simp only [decide_eq_true_eq, decide_eq_false_iff_not, Bool.not_eq_true', Bool.not_eq_false', Bool.not_eq_eq_eq_not, Bool.not_true, Bool.not_false, Bool.and_eq_true, Bool.or_eq_true, Bool.or_eq_false_iff, beq_iff_eq, beq_eq_false_iff_ne, ne_eq, Int.not_lt, Int.not_le, Decidable.not_not] at hg51); simp at hg51
    · try simp only [decide_eq_true_eq, decide_eq_false_iff_not, Bool.not_eq_true', Bool.not_eq_false', Bool.not_eq_eq_eq_not, Bool.not_true, Bool.not_false, Bool.and_eq_true, Bool.or_eq_true, Bool.or_eq_false_iff, beq_iff_eq, beq_eq_false_iff_ne, ne_eq, Int.not_lt, Int.not_le, Decidable.not_not] at hg21
      refine g_step_no (j := 5) (t := 21) rfl rfl rfl rfl rfl rfl rfl ?_
      refine g_step_no (j := 5) (t := 21) rfl rfl rfl rfl rfl rfl rfl ?_
      refine g_step_no (j := 5) (t := 21) rfl rfl rfl rfl rfl rfl rfl ?_
      refine g_step_no (j := 5) (t := 21) rfl rfl rfl rfl rfl rfl rfl ?_
      refine g_step_no (j := 5) (t := 21) rfl rfl rfl rfl rfl rfl rfl ?_
      refine g_step_no (j := 5) (t := 21) rfl rfl rfl rfl rfl rfl rfl ?_
      refine g_step_no (j := 5) (t := 21) rfl rfl rfl rfl rfl rfl rfl ?_
      refine g_step rfl (s_val (v_pick_f rfl rfl) rfl rfl ?_)
      refine g_step rfl (s_val (v_move rfl) rfl rfl ?_)
      refine g_step_no (j := 14) (t := 30) rfl rfl rfl rfl rfl rfl rfl ?_
      refine g_step_no (j := 14) (t := 30) rfl rfl rfl rfl rfl rfl rfl ?_
      refine g_step_no (j := 14) (t := 30) rfl rfl rfl rfl rfl rfl rfl ?_
      refine g_step_no (j := 14) (t := 30) rfl rfl rfl rfl rfl rfl rfl ?_
      refine g_step_no (j := 14) (t := 30) rfl rfl rfl rfl rfl rfl rfl ?_
      refine g_step_no (j := 14) (t := 30) rfl rfl rfl rfl rfl rfl rfl ?_
      refine g_step_no (j := 14) (t := 30) rfl rfl rfl rfl rfl rfl rfl ?_
      refine g_step rfl (s_val (v_pick_f rfl rfl) rfl rfl ?_)
      refine g_step rfl (s_val (v_move rfl) rfl rfl ?_)
      refine g_step_no (j := 23) (t := 39) rfl rfl rfl rfl rfl rfl rfl ?_
      refine g_step_no (j := 23) (t := 39) rfl rfl rfl rfl rfl rfl rfl ?_
      refine g_step_no (j := 23) (t := 39) rfl rfl rfl rfl rfl rfl rfl ?_
      refine g_step_no (j := 23) (t := 39) rfl rfl rfl rfl rfl rfl rfl ?_
      refine g_step_no (j := 23) (t := 39) rfl rfl rfl rfl rfl rfl rfl ?_
      refine g_step rfl (s_val (v_pick_f rfl rfl) rfl rfl ?_)
      refine g_step rfl (s_val (v_assign rfl) rfl rfl ?_)
      refine g_nil ?_
      refine g_next hK5 ?_
      refine g_keep [5, 6] [2, 3] [2, 3] rfl rfl rfl rfl ?_
      refine g_seq (fun K9 hK9 => ?_)
      refine g_region ?_
      refine g_step rfl (s_val (v_move rfl) rfl rfl ?_)
      refine g_step rfl (s_val (by first | exact v_loadl_all ty32 rfl rfl rfl rfl rfl | exact v_loadl_part (cs := [_, _, _, _, _, _, _]) ty32 rfl rfl rfl rfl rfl rfl) rfl rfl ?_)
      refine g_step rfl (s_val (by first | exact v_loadl_all ty32 rfl rfl rfl rfl rfl | exact v_loadl_part (cs := [_, _, _, _, _, _, _]) ty32 rfl rfl rfl rfl rfl rfl) rfl rfl ?_)
      refine g_step rfl (s_callp rfl rfl rfl (weigh08_ok a b _ hsa) ?_)
      rintro _ rfl
      refine g_step rfl (s_val (v_eql rfl rfl) rfl rfl ?_)
      refine g_step rfl (s_val (v_move rfl) rfl rfl ?_)
      refine g_split 51 rfl (fun hg51 => ?_) (fun hg51 => ?_)
      · try simp only [decide_eq_true_eq, decide_eq_false_iff_not, Bool.not_eq_true', Bool.not_eq_false', Bool.not_eq_eq_eq_not, Bool.not_true, Bool.not_false, Bool.and_eq_true, Bool.or_eq_true, Bool.or_eq_false_iff, beq_iff_eq, beq_eq_false_iff_ne, ne_eq, Int.not_lt, Int.not_le, Decidable.not_not] at hg51
        refine g_step_yes (j := 5) (t := 51) rfl rfl rfl rfl (s_val (by first | exact v_loadl_all ty32 rfl rfl rfl rfl rfl | exact v_loadl_part (cs := [_, _, _, _, _, _, _]) ty32 rfl rfl rfl rfl rfl rfl) rfl rfl ?_)
        refine g_step_yes (j := 5) (t := 51) rfl rfl rfl rfl (s_val (by first | exact v_loadl_all ty32 rfl rfl rfl rfl rfl | exact v_loadl_part (cs := [_, _, _, _, _, _, _]) ty32 rfl rfl rfl rfl rfl rfl) rfl rfl ?_)
        refine g_step_yes (j := 5) (t := 51) rfl rfl rfl rfl (s_callp rfl rfl rfl (weigh_ok b a _ hsb) ?_)
        rintro _ rfl
        refine g_step_yes (j := 5) (t := 51) rfl rfl rfl rfl (s_val (v_move rfl) rfl rfl ?_)
        refine g_step_yes (j := 5) (t := 51) rfl rfl rfl rfl (s_val (v_neg rfl (by omega)) rfl rfl ?_)
        refine g_step_yes (j := 5) (t := 51) rfl rfl rfl rfl (s_val (v_eql rfl rfl) rfl rfl ?_)
        refine g_step rfl (s_val (v_pick_t rfl rfl) rfl rfl ?_)
        refine g_step rfl (s_val (v_move rfl) rfl rfl ?_)
        refine g_split 59 rfl (fun hg59 => ?_) (fun hg59 => ?_)
        · try simp only [decide_eq_true_eq, decide_eq_false_iff_not, Bool.not_eq_true', Bool.not_eq_false', Bool.not_eq_eq_eq_not, Bool.not_true, Bool.not_false, Bool.and_eq_true, Bool.or_eq_true, Bool.or_eq_false_iff, beq_iff_eq, beq_eq_false_iff_ne, ne_eq, Int.not_lt, Int.not_le, Decidable.not_not] at hg59
          refine g_step_yes (j := 13) (t := 59) rfl rfl rfl rfl (s_val (v_move rfl) rfl rfl ?_)
          refine g_step_yes (j := 13) (t := 59) rfl rfl rfl rfl (s_val (v_eql rfl rfl) rfl rfl ?_)
          refine g_step_yes (j := 13) (t := 59) rfl rfl rfl rfl (s_val (v_move rfl) rfl rfl ?_)
          refine g_step_yes (j := 13) (t := 59) rfl rfl rfl rfl (s_val (v_bool_eql ty4 rfl rfl) rfl rfl ?_)
          refine g_step rfl (s_val (v_pick_t rfl rfl) rfl rfl ?_)
          refine g_step rfl (s_val (v_move rfl) rfl rfl ?_)
          refine g_split 65 rfl (fun hg65 => ?_) (fun hg65 => ?_)
          · try simp only [decide_eq_true_eq, decide_eq_false_iff_not, Bool.not_eq_true', Bool.not_eq_false', Bool.not_eq_eq_eq_not, Bool.not_true, Bool.not_false, Bool.and_eq_true, Bool.or_eq_true, Bool.or_eq_false_iff, beq_iff_eq, beq_eq_false_iff_ne, ne_eq, Int.not_lt, Int.not_le, Decidable.not_not] at hg65
            refine g_step_yes (j := 19) (t := 65) rfl rfl rfl rfl (s_callp rfl rfl rfl (awake08_ok _) ?_)
            rintro _ rfl
            refine g_step rfl (s_val (v_pick_t rfl rfl) rfl rfl ?_)
            refine g_step rfl (s_val (v_assign rfl) rfl rfl ?_)
            refine g_nil ?_
            refine g_next hK9 ?_
            refine g_keep [4] [] [] rfl rfl rfl rfl ?_
            refine g_ret ?_
            refine g_end1 (.inl rfl) Try.results5 (.tmp rfl) [] (ASub.refl _) (AHeap.sub_refl _) (fun p hp => by cases hp) ⟨rfl, ?_⟩
            rfl
          · exfalso; (try simp only [decide_eq_true_eq, decide_eq_false_iff_not, Bool.not_eq_true', Bool.not_eq_false', Bool.not_eq_eq_eq_not, Bool.not_true, Bool.not_false, Bool.and_eq_true, Bool.or_eq_true, Bool.or_eq_false_iff, beq_iff_eq, beq_eq_false_iff_ne, ne_eq, Int.not_lt, Int.not_le, Decidable.not_not] at hg65); obtain ⟨_, _, _, ⟨_, _⟩, _, _⟩ := a; obtain ⟨_, _, _, ⟨_, _⟩, _, _⟩ := b; simp_all
        · exfalso; (try simp only [decide_eq_true_eq, decide_eq_false_iff_not, Bool.not_eq_true', Bool.not_eq_false', Bool.not_eq_eq_eq_not, Bool.not_true, Bool.not_false, Bool.and_eq_true, Bool.or_eq_true, Bool.or_eq_false_iff, beq_iff_eq, beq_eq_false_iff_ne, ne_eq, Int.not_lt, Int.not_le, Decidable.not_not] at hg59); simp [hwn] at hg59
      · exfalso; (try simp only [decide_eq_true_eq, decide_eq_false_iff_not, Bool.not_eq_true', Bool.not_eq_false', Bool.not_eq_eq_eq_not, Bool.not_true, Bool.not_false, Bool.and_eq_true, Bool.or_eq_true, Bool.or_eq_false_iff, beq_iff_eq, beq_eq_false_iff_ne, ne_eq, Int.not_lt, Int.not_le, Decidable.not_not] at hg51); simp at hg51

theorem recParts_ok (a b : Rc) (hha : Held a.bag) (hhb : Held b.bag) (G : AHeap) : PCalls Try.prog 6 [encR a, encR b] G (fun v => v = .bool true) := by
  refine LCalls.intro 77 fi6 rfl Try.ntmps6 rfl (fun _ h => h.elim) (fun H hH w0 hw0 => ?_)
  refine g_seq (fun K0 hK0 => ?_)
  refine g_region ?_
  refine g_step rfl (s_box rfl rfl rfl rfl ?_)
  refine g_step rfl (s_box rfl rfl rfl rfl ?_)
  refine g_step rfl (s_val (v_assign rfl) rfl rfl ?_)
  refine g_nil ?_
  refine g_next hK0 ?_
  refine g_seq (fun K1 hK1 => ?_)
  refine g_seq (fun K2 hK2 => ?_)
  refine g_region ?_
  refine g_step rfl (s_val (by first | exact v_loadl_all ty32 rfl rfl rfl rfl rfl | exact v_loadl_part (cs := [_, _, _, _, _, _, _]) ty32 rfl rfl rfl rfl rfl rfl) rfl rfl ?_)
  refine g_step rfl (s_val (by first | exact v_loadl_all ty32 rfl rfl rfl rfl rfl | exact v_loadl_part (cs := [_, _, _, _, _, _, _]) ty32 rfl rfl rfl rfl rfl rfl) rfl rfl ?_)
  refine g_step rfl (s_lit ty34 ty32 rfl rfl rfl rfl rfl rfl rfl ?_)
  refine g_step rfl (s_callp rfl rfl rfl (fewL_ok [a, b] _ _ rfl (by simp [hha, hhb]) (by simp)) ?_)
  rintro _ rfl
  refine g_step rfl (s_val (v_not rfl) rfl rfl ?_)
  refine g_nil ?_
  refine g_next hK2 ?_
  refine g_cond rfl (fun hc11 => ?_) (fun hc11 => ?_)
  · try simp only [decide_eq_true_eq, decide_eq_false_iff_not, Bool.not_eq_true', Bool.not_eq_false', Bool.not_eq_eq_eq_not, Bool.not_true, Bool.not_false, Bool.and_eq_true, Bool.or_eq_true, Bool.or_eq_false_iff, beq_iff_eq, beq_eq_false_iff_ne, ne_eq, Int.not_lt, Int.not_le, Decidable.not_not] at hc11
    refine g_seq (fun K3 hK3 => ?_)
    refine g_region ?_
    refine g_step rfl (s_callp rfl rfl rfl (awake08_ok _) ?_)
    rintro _ rfl
    refine g_step rfl (s_val (v_assign rfl) rfl rfl ?_)
    refine g_nil ?_
    refine g_next hK3 ?_
    refine g_ret ?_
    refine g_then_ret ?_
    refine g_end1 (.inl rfl) Try.results6 (.tmp rfl) [] (ASub.refl _) (AHeap.sub_refl _) (fun p hp => by cases hp) ⟨rfl, ?_⟩
    rfl
  · try simp only [decide_eq_true_eq, decide_eq_false_iff_not, Bool.not_eq_true', Bool.not_eq_false', Bool.not_eq_eq_eq_not, Bool.not_true, Bool.not_false, Bool.and_eq_true, Bool.or_eq_true, Bool.or_eq_false_iff, beq_iff_eq, beq_eq_false_iff_ne, ne_eq, Int.not_lt, Int.not_le, Decidable.not_not] at hc11
    have hf : few a.bag = true ∧ few b.bag = true := by simpa [fewL] using hc11
    have hsa := (few_small hf.1).1
    have hsb := (few_small hf.2).1
    have hs0 : ∀ r : Rc, Small (core r).bag := fun r => ⟨by simp [core], by simp [core, bsize]⟩
    refine g_skip ?_
    refine g_next hK1 ?_
    refine g_seq (fun K4 hK4 => ?_)
    refine g_region ?_
    refine g_step rfl (s_val (by first | exact v_loadl_all ty32 rfl rfl rfl rfl rfl | exact v_loadl_part (cs := [_, _, _, _, _, _, _]) ty32 rfl rfl rfl rfl rfl rfl) rfl rfl ?_)
    refine g_step rfl (s_callp rfl rfl rfl (core_ok a _) ?_)
    rintro _ rfl
    refine g_step rfl (s_alloc (av := (.agg [(.int .i64 0), (.int .i64 0), (.int .i64 0), (.int .i64 0), (.int .i64 0), (.bool false), .nil0])) ty32 rfl rfl rfl rfl ?_)
    refine g_step rfl (s_store_all ty32 rfl rfl rfl rfl rfl rfl ?_)
    refine g_nil ?_
    refine g_next hK4 ?_
    refine g_seq (fun K5 hK5 => ?_)
    refine g_region ?_
    refine g_step rfl (s_val (by first | exact v_loadl_all ty32 rfl rfl rfl rfl rfl | exact v_loadl_part (cs := [_, _, _, _, _, _, _]) ty32 rfl rfl rfl rfl rfl rfl) rfl rfl ?_)
    refine g_step rfl (s_callp rfl rfl rfl (bare_ok a _ hsa) ?_)
    rintro _ rfl
    refine g_step rfl (s_alloc (av := (.agg [(.int .i64 0), (.int .i64 0), (.int .i64 0), (.int .i64 0), (.int .i64 0), (.bool false), .nil0])) ty32 rfl rfl rfl rfl ?_)
    refine g_step rfl (s_store_all ty32 rfl rfl rfl rfl rfl rfl ?_)
    refine g_nil ?_
    refine g_next hK5 ?_
    refine g_seq (fun K6 hK6 => ?_)
    refine g_seq (fun K7 hK7 => ?_)
    refine g_region ?_
    refine g_step rfl (s_val (by first | exact v_loadl_all ty32 rfl rfl rfl rfl rfl | exact v_loadl_part (cs := [_, _, _, _, _, _, _]) ty32 rfl rfl rfl rfl rfl rfl) rfl rfl ?_)
    refine g_step rfl (s_fieldAddr ty32 fo32_0 ty3 rfl rfl ?_)
    refine g_step rfl (s_val (v_loadl ty3 rfl rfl rfl rfl) rfl rfl ?_)
    refine g_step rfl (s_fieldAddr ty32 fo32_1 ty3 rfl rfl ?_)
    refine g_step rfl (s_val (v_loadl ty3 rfl rfl rfl rfl) rfl rfl ?_)
    refine g_step rfl (s_fieldAddr ty32 fo32_2 ty3 rfl rfl ?_)
    refine g_step rfl (s_val (v_loadl ty3 rfl rfl rfl rfl) rfl rfl ?_)
    refine g_step rfl (s_fieldAddr ty32 fo32_3 ty29 rfl rfl ?_)
    refine g_step rfl (s_val (v_loadl_part (cs := [_, _]) ty29 rfl rfl rfl rfl rfl rfl) rfl rfl ?_)
    refine g_step rfl (s_val (v_sub (b := (encR (core a))) (v_build (vs := [(0, _), (1, _), (2, _), (3, _)]) (zs := [(.int .i64 0), (.int .i64 0), (.int .i64 0), (.int .i64 0), (.int .i64 0), (.bool false), .nil0]) (cells := [_, _, _, _, _, _, _]) ty32 pl32 rfl rfl rfl) (ASub.of_wk rfl)) rfl rfl ?_)
    refine g_step rfl (s_callp rfl rfl rfl (alike_ok (core a) (core a) _ (hs0 a)) ?_)
    rintro _ rfl
    refine g_step rfl (s_val (v_not rfl) rfl rfl ?_)
    refine g_nil ?_
    refine g_next hK7 ?_
    refine g_cond rfl (fun hc28 => ?_) (fun hc28 => ?_)
    · exfalso; (try simp only [decide_eq_true_eq, decide_eq_false_iff_not, Bool.not_eq_true', Bool.not_eq_false', Bool.not_eq_eq_eq_not, Bool.not_true, Bool.not_false, Bool.and_eq_true, Bool.or_eq_true, Bool.or_eq_false_iff, beq_iff_eq, beq_eq_false_iff_ne, ne_eq, Int.not_lt, Int.not_le, Decidable.not_not] at hc28); simp at hc28
    · try simp only [decide_eq_true_eq, decide_eq_false_iff_not, Bool.not_eq_true', Bool.not_eq_false', Bool.not_eq_eq_eq_not, Bool.not_true, Bool.not_false, Bool.and_eq_true, Bool.or_eq_true, Bool.or_eq_false_iff, beq_iff_eq, beq_eq_false_iff_ne, ne_eq, Int.not_lt, Int.not_le, Decidable.not_not] at hc28
      refine g_skip ?_
      refine g_next hK6 ?_
      refine g_seq (fun K8 hK8 => ?_)
      refine g_seq (fun K9 hK9 => ?_)
      refine g_region ?_
      refine g_step rfl (s_val (by first | exact v_loadl_all ty32 rfl rfl rfl rfl rfl | exact v_loadl_part (cs := [_, _, _, _, _, _, _]) ty32 rfl rfl rfl rfl rfl rfl) rfl rfl ?_)
      refine g_step rfl (s_fieldAddr ty32 fo32_0 ty3 rfl rfl ?_)
      refine g_step rfl (s_val (v_loadl ty3 rfl rfl rfl rfl) rfl rfl ?_)
      refine g_step rfl (s_fieldAddr ty32 fo32_1 ty3 rfl rfl ?_)
      refine g_step rfl (s_val (v_loadl ty3 rfl rfl rfl rfl) rfl rfl ?_)
      refine g_step rfl (s_fieldAddr ty32 fo32_2 ty3 rfl rfl ?_)
      refine g_step rfl (s_val (v_loadl ty3 rfl rfl rfl rfl) rfl rfl ?_)
      refine g_step rfl (s_fieldAddr ty32 fo32_3 ty29 rfl rfl ?_)
      refine g_step rfl (s_val (v_loadl_part (cs := [_, _]) ty29 rfl rfl rfl rfl rfl rfl) rfl rfl ?_)
      refine g_step rfl (s_fieldAddr ty32 fo32_4 ty4 rfl rfl ?_)
      refine g_step rfl (s_val (v_loadl ty4 rfl rfl rfl rfl) rfl rfl ?_)
      refine g_step rfl (s_val (v_move rfl) rfl rfl ?_)
      refine g_split 40 rfl (fun hg40 => ?_) (fun hg40 => ?_)
      · try simp only [decide_eq_true_eq, decide_eq_false_iff_not, Bool.not_eq_true', Bool.not_eq_false', Bool.not_eq_eq_eq_not, Bool.not_true, Bool.not_false, Bool.and_eq_true, Bool.or_eq_true, Bool.or_eq_false_iff, beq_iff_eq, beq_eq_false_iff_ne, ne_eq, Int.not_lt, Int.not_le, Decidable.not_not] at hg40
        refine g_step_no (j := 11) (t := 40) rfl rfl rfl rfl rfl rfl rfl ?_
        refine g_step_no (j := 11) (t := 40) rfl rfl rfl rfl rfl rfl rfl ?_
        refine g_step_no (j := 11) (t := 40) rfl rfl rfl rfl rfl rfl rfl ?_
        refine g_step_no (j := 11) (t := 40) rfl rfl rfl rfl rfl rfl rfl ?_
        refine g_step rfl (s_val (v_pick_t rfl rfl) rfl rfl ?_)
        refine g_step rfl (s_val (v_sub (b := (.agg [.int .i64 a.id, .int .i64 a.inc, .int .i64 a.st, .int .i64 a.sp.lo, .int .i64 a.sp.hi, .bool _, .imm []])) (v_build (vs := [(0, _), (1, _), (2, _), (3, _), (4, _)]) (zs := [(.int .i64 0), (.int .i64 0), (.int .i64 0), (.int .i64 0), (.int .i64 0), (.bool false), .nil0]) (cells := [_, _, _, _, _, _, _]) ty32 pl32 rfl rfl rfl) (ASub.of_wk rfl)) rfl rfl ?_)
        refine g_step rfl (s_callp rfl rfl rfl (alike_ok (bare a) ⟨a.id, a.inc, a.st, a.sp, _, []⟩ _ ⟨by simp [bare], by simp [bare, bsize]⟩) ?_)
        rintro _ rfl
        refine g_step rfl (s_val (v_not rfl) rfl rfl ?_)
        refine g_nil ?_
        refine g_next hK9 ?_
        refine g_keep [48] [2, 3] [2, 3] rfl rfl rfl rfl ?_
        refine g_cond rfl (fun hc48 => ?_) (fun hc48 => ?_)
        · exfalso; (try simp only [decide_eq_true_eq, decide_eq_false_iff_not, Bool.not_eq_true', Bool.not_eq_false', Bool.not_eq_eq_eq_not, Bool.not_true, Bool.not_false, Bool.and_eq_true, Bool.or_eq_true, Bool.or_eq_false_iff, beq_iff_eq, beq_eq_false_iff_ne, ne_eq, Int.not_lt, Int.not_le, Decidable.not_not] at hc48); first | (simp_all [bare]; done) | exact hc48 (congrArg (fun u => (⟨a.id, a.inc, a.st, a.sp, u, []⟩ : Rc)) (show (a.cut || decide (0 < a.bag.length)) = decide ((0:Int) < (a.bag.length : Int)) by rw [hg40, Bool.false_or]; exact decide_eq_decide.2 (by omega)))
        · try simp only [decide_eq_true_eq, decide_eq_false_iff_not, Bool.not_eq_true', Bool.not_eq_false', Bool.not_eq_eq_eq_not, Bool.not_true, Bool.not_false, Bool.and_eq_true, Bool.or_eq_true, Bool.or_eq_false_iff, beq_iff_eq, beq_eq_false_iff_ne, ne_eq, Int.not_lt, Int.not_le, Decidable.not_not] at hc48
          refine g_skip ?_
          refine g_next hK8 ?_
          refine g_seq (fun K10 hK10 => ?_)
          refine g_draw (n := 29) (fun j => !([] : List Nat).contains j) rfl rfl ?_
          refine m_take 0 true rfl rfl (by kernel_rfl) (by kernel_rfl) (by kernel_rfl) (fun _ _ _ _ h => h) (by first | exact v_loadl_all ty32 rfl rfl rfl rfl rfl | exact v_loadl_part (cs := [_, _, _, _, _, _, _]) ty32 rfl rfl rfl rfl rfl rfl) rfl rfl ?_
          refine m_take 2 true rfl rfl (by kernel_rfl) (by kernel_rfl) (by kernel_rfl) (fun _ _ _ _ h => h) (by first | exact v_loadl_all ty32 rfl rfl rfl rfl rfl | exact v_loadl_part (cs := [_, _, _, _, _, _, _]) ty32 rfl rfl rfl rfl rfl rfl) rfl rfl ?_
          refine m_one 1 (by kernel_rfl) rfl rfl ?_
          refine sm_callp rfl rfl rfl (recValid_ok a _ hsa) ?_
          rintro _ rfl
          refine m_one 3 (by kernel_rfl) rfl rfl ?_
          refine sm_callp rfl rfl rfl (may08_ok a _ hsa) ?_
          rintro _ rfl
          refine m_take 4 false rfl rfl (by kernel_rfl) (by kernel_rfl) (by kernel_rfl) (fun _ _ _ _ h => h) (v_bool_eql ty4 rfl rfl) rfl rfl ?_
          refine m_take 5 false rfl rfl (by kernel_rfl) (by kernel_rfl) (by kernel_rfl) (fun _ _ _ _ h => h) (v_move rfl) rfl rfl ?_
          refine m_split 54 rfl (fun hg54 => ?_) (fun hg54 => ?_)
          · try simp only [decide_eq_true_eq, decide_eq_false_iff_not, Bool.not_eq_true', Bool.not_eq_false', Bool.not_eq_eq_eq_not, Bool.not_true, Bool.not_false, Bool.and_eq_true, Bool.or_eq_true, Bool.or_eq_false_iff, beq_iff_eq, beq_eq_false_iff_ne, ne_eq, Int.not_lt, Int.not_le, Decidable.not_not] at hg54
            refine m_take_yes (j := 5) (t := 54) 6 true rfl rfl rfl rfl rfl (by kernel_rfl) (by kernel_rfl) (by kernel_rfl) (fun _ _ _ _ h => h) (by first | exact v_loadl_all ty32 rfl rfl rfl rfl rfl | exact v_loadl_part (cs := [_, _, _, _, _, _, _]) ty32 rfl rfl rfl rfl rfl rfl) rfl rfl ?_
            refine m_take_yes (j := 5) (t := 54) 7 true rfl rfl rfl rfl rfl (by kernel_rfl) (by kernel_rfl) (by kernel_rfl) (fun _ _ _ _ h => h) (by first | exact v_loadl_all ty32 rfl rfl rfl rfl rfl | exact v_loadl_part (cs := [_, _, _, _, _, _, _]) ty32 rfl rfl rfl rfl rfl rfl) rfl rfl ?_
            refine m_take_yes (j := 5) (t := 54) 9 true rfl rfl rfl rfl rfl (by kernel_rfl) (by kernel_rfl) (by kernel_rfl) (fun _ _ _ _ h => h) (by first | exact v_loadl_all ty32 rfl rfl rfl rfl rfl | exact v_loadl_part (cs := [_, _, _, _, _, _, _]) ty32 rfl rfl rfl rfl rfl rfl) rfl rfl ?_
            refine m_take_yes (j := 5) (t := 54) 10 true rfl rfl rfl rfl rfl (by kernel_rfl) (by kernel_rfl) (by kernel_rfl) (fun _ _ _ _ h => h) (by first | exact v_loadl_all ty32 rfl rfl rfl rfl rfl | exact v_loadl_part (cs := [_, _, _, _, _, _, _]) ty32 rfl rfl rfl rfl rfl rfl) rfl rfl ?_
            refine m_one_yes (j := 5) (t := 54) 8 (by kernel_rfl) rfl rfl rfl rfl rfl ?_
            refine sm_callp rfl rfl rfl (rsame_ok a b _ hsa) ?_
            rintro _ rfl
            refine m_one_yes (j := 5) (t := 54) 11 (by kernel_rfl) rfl rfl rfl rfl rfl ?_
            refine sm_callp rfl rfl rfl (alike_ok a b _ hsa) ?_
            rintro _ rfl
            refine m_take_yes (j := 5) (t := 54) 12 false rfl rfl rfl rfl rfl (by kernel_rfl) (by kernel_rfl) (by kernel_rfl) (fun _ _ _ _ h => h) (v_bool_eql ty4 rfl rfl) rfl rfl ?_
            refine m_take 13 false rfl rfl (by kernel_rfl) (by kernel_rfl) (by kernel_rfl) (fun _ _ _ _ h => h) (v_pick_t rfl rfl) rfl rfl ?_
            refine m_take 14 false rfl rfl (by kernel_rfl) (by kernel_rfl) (by kernel_rfl) (fun _ _ _ _ h => h) (v_move rfl) rfl rfl ?_
            refine m_split 63 rfl (fun hg63 => ?_) (fun hg63 => ?_)
            · try simp only [decide_eq_true_eq, decide_eq_false_iff_not, Bool.not_eq_true', Bool.not_eq_false', Bool.not_eq_eq_eq_not, Bool.not_true, Bool.not_false, Bool.and_eq_true, Bool.or_eq_true, Bool.or_eq_false_iff, beq_iff_eq, beq_eq_false_iff_ne, ne_eq, Int.not_lt, Int.not_le, Decidable.not_not] at hg63
              refine m_take_yes (j := 14) (t := 63) 15 true rfl rfl rfl rfl rfl (by kernel_rfl) (by kernel_rfl) (by kernel_rfl) (fun _ _ _ _ h => h) (by first | exact v_loadl_all ty32 rfl rfl rfl rfl rfl | exact v_loadl_part (cs := [_, _, _, _, _, _, _]) ty32 rfl rfl rfl rfl rfl rfl) rfl rfl ?_
              refine m_take_yes (j := 14) (t := 63) 16 true rfl rfl rfl rfl rfl (by kernel_rfl) (by kernel_rfl) (by kernel_rfl) (fun _ _ _ _ h => h) (by first | exact v_loadl_all ty32 rfl rfl rfl rfl rfl | exact v_loadl_part (cs := [_, _, _, _, _, _, _]) ty32 rfl rfl rfl rfl rfl rfl) rfl rfl ?_
              refine m_take_yes (j := 14) (t := 63) 18 true rfl rfl rfl rfl rfl (by kernel_rfl) (by kernel_rfl) (by kernel_rfl) (fun _ _ _ _ h => h) (by first | exact v_loadl_all ty32 rfl rfl rfl rfl rfl | exact v_loadl_part (cs := [_, _, _, _, _, _, _]) ty32 rfl rfl rfl rfl rfl rfl) rfl rfl ?_
              refine m_take_yes (j := 14) (t := 63) 20 true rfl rfl rfl rfl rfl (by kernel_rfl) (by kernel_rfl) (by kernel_rfl) (fun _ _ _ _ h => h) (by first | exact v_loadl_all ty32 rfl rfl rfl rfl rfl | exact v_loadl_part (cs := [_, _, _, _, _, _, _]) ty32 rfl rfl rfl rfl rfl rfl) rfl rfl ?_
              refine m_one_yes (j := 14) (t := 63) 17 (by kernel_rfl) rfl rfl rfl rfl rfl ?_
              refine sm_callp rfl rfl rfl (akin_ok a b _) ?_
              rintro _ rfl
              refine m_one_yes (j := 14) (t := 63) 19 (by kernel_rfl) rfl rfl rfl rfl rfl ?_
              refine sm_callp rfl rfl rfl (core_ok a _) ?_
              rintro _ rfl
              refine m_one_yes (j := 14) (t := 63) 21 (by kernel_rfl) rfl rfl rfl rfl rfl ?_
              refine sm_callp rfl rfl rfl (core_ok b _) ?_
              rintro _ rfl
              refine m_one_yes (j := 14) (t := 63) 22 (by kernel_rfl) rfl rfl rfl rfl rfl ?_
              refine sm_callp rfl rfl rfl (alike_ok (core a) (core b) _ (hs0 a)) ?_
              rintro _ rfl
              refine m_take_yes (j := 14) (t := 63) 23 false rfl rfl rfl rfl rfl (by kernel_rfl) (by kernel_rfl) (by kernel_rfl) (fun _ _ _ _ h => h) (v_bool_eql ty4 rfl rfl) rfl rfl ?_
              refine m_take 24 false rfl rfl (by kernel_rfl) (by kernel_rfl) (by kernel_rfl) (fun _ _ _ _ h => h) (v_pick_t rfl rfl) rfl rfl ?_
              refine m_take 25 false rfl rfl (by kernel_rfl) (by kernel_rfl) (by kernel_rfl) (fun _ _ _ _ h => h) (v_move rfl) rfl rfl ?_
              refine m_split 74 rfl (fun hg74 => ?_) (fun hg74 => ?_)
              · try simp only [decide_eq_true_eq, decide_eq_false_iff_not, Bool.not_eq_true', Bool.not_eq_false', Bool.not_eq_eq_eq_not, Bool.not_true, Bool.not_false, Bool.and_eq_true, Bool.or_eq_true, Bool.or_eq_false_iff, beq_iff_eq, beq_eq_false_iff_ne, ne_eq, Int.not_lt, Int.not_le, Decidable.not_not] at hg74
                refine m_one_yes (j := 25) (t := 74) 26 (by kernel_rfl) rfl rfl rfl rfl rfl ?_
                refine sm_callp rfl rfl rfl (awake08_ok _) ?_
                rintro _ rfl
                refine m_take 27 false rfl rfl (by kernel_rfl) (by kernel_rfl) (by kernel_rfl) (fun _ _ _ _ h => h) (v_pick_t rfl rfl) rfl rfl ?_
                refine m_take 28 false rfl rfl (by kernel_rfl) (by kernel_rfl) (by kernel_rfl) (fun _ _ _ _ h => h) (v_assign rfl) rfl rfl ?_
                refine m_done (by kernel_rfl) ?_
                refine g_next hK10 ?_
                refine g_keep [4] [] [] rfl rfl rfl rfl ?_
                refine g_ret ?_
                refine g_end1 (.inl rfl) Try.results6 (.tmp rfl) [] (ASub.refl _) (AHeap.sub_refl _) (fun p hp => by cases hp) ⟨rfl, ?_⟩
                rfl
              · exfalso; (try simp only [decide_eq_true_eq, decide_eq_false_iff_not, Bool.not_eq_true', Bool.not_eq_false', Bool.not_eq_eq_eq_not, Bool.not_true, Bool.not_false, Bool.and_eq_true, Bool.or_eq_true, Bool.or_eq_false_iff, beq_iff_eq, beq_eq_false_iff_ne, ne_eq, Int.not_lt, Int.not_le, Decidable.not_not] at hg74); simp [akin_core] at hg74
            · exfalso; (try simp only [decide_eq_true_eq, decide_eq_false_iff_not, Bool.not_eq_true', Bool.not_eq_false', Bool.not_eq_eq_eq_not, Bool.not_true, Bool.not_false, Bool.and_eq_true, Bool.or_eq_true, Bool.or_eq_false_iff, beq_iff_eq, beq_eq_false_iff_ne, ne_eq, Int.not_lt, Int.not_le, Decidable.not_not] at hg63); simp at hg63
          · exfalso; (try simp only [decide_eq_true_eq, decide_eq_false_iff_not, Bool.not_eq_true', Bool.not_eq_false', Bool.not_eq_eq_eq_not, Bool.not_true, Bool.not_false, Bool.and_eq_true, Bool.or_eq_true, Bool.or_eq_false_iff, beq_iff_eq, beq_eq_false_iff_ne, ne_eq, Int.not_lt, Int.not_le, Decidable.not_not] at hg54); simp at hg54
      · try simp only [decide_eq_true_eq, decide_eq_false_iff_not, Bool.not_eq_true', Bool.not_eq_false', Bool.not_eq_eq_eq_not, Bool.not_true, Bool.not_false, Bool.and_eq_true, Bool.or_eq_true, Bool.or_eq_false_iff, beq_iff_eq, beq_eq_false_iff_ne, ne_eq, Int.not_lt, Int.not_le, Decidable.not_not] at hg40
        refine g_step_yes (j := 11) (t := 40) rfl rfl rfl rfl (s_fieldAddr ty32 fo32_5 ty30 rfl rfl ?_)
        refine g_step_yes (j := 11) (t := 40) rfl rfl rfl rfl (s_val (v_loadl ty30 rfl rfl rfl rfl) rfl rfl ?_)
        refine g_step_yes (j := 11) (t := 40) rfl rfl rfl rfl (s_val (v_len ty30 rfl (by first | rfl | assumption) (by first | exact List.length_map .. | rfl)) rfl rfl ?_)
        refine g_step_yes (j := 11) (t := 40) rfl rfl rfl rfl (s_val (v_gtr rfl rfl) rfl rfl ?_)
        refine g_step rfl (s_val (v_pick_f rfl rfl) rfl rfl ?_)
        refine g_step rfl (s_val (v_sub (b := (.agg [.int .i64 a.id, .int .i64 a.inc, .int .i64 a.st, .int .i64 a.sp.lo, .int .i64 a.sp.hi, .bool _, .imm []])) (v_build (vs := [(0, _), (1, _), (2, _), (3, _), (4, _)]) (zs := [(.int .i64 0), (.int .i64 0), (.int .i64 0), (.int .i64 0), (.int .i64 0), (.bool false), .nil0]) (cells := [_, _, _, _, _, _, _]) ty32 pl32 rfl rfl rfl) (ASub.of_wk rfl)) rfl rfl ?_)
        refine g_step rfl (s_callp rfl rfl rfl (alike_ok (bare a) ⟨a.id, a.inc, a.st, a.sp, _, []⟩ _ ⟨by simp [bare], by simp [bare, bsize]⟩) ?_)
        rintro _ rfl
        refine g_step rfl (s_val (v_not rfl) rfl rfl ?_)
        refine g_nil ?_
        refine g_next hK9 ?_
        refine g_keep [48] [2, 3] [2, 3] rfl rfl rfl rfl ?_
        refine g_cond rfl (fun hc48 => ?_) (fun hc48 => ?_)
        · exfalso; (try simp only [decide_eq_true_eq, decide_eq_false_iff_not, Bool.not_eq_true', Bool.not_eq_false', Bool.not_eq_eq_eq_not, Bool.not_true, Bool.not_false, Bool.and_eq_true, Bool.or_eq_true, Bool.or_eq_false_iff, beq_iff_eq, beq_eq_false_iff_ne, ne_eq, Int.not_lt, Int.not_le, Decidable.not_not] at hc48); first | (simp_all [bare]; done) | exact hc48 (congrArg (fun u => (⟨a.id, a.inc, a.st, a.sp, u, []⟩ : Rc)) (show (a.cut || decide (0 < a.bag.length)) = decide ((0:Int) < (a.bag.length : Int)) by rw [hg40, Bool.false_or]; exact decide_eq_decide.2 (by omega)))
        · try simp only [decide_eq_true_eq, decide_eq_false_iff_not, Bool.not_eq_true', Bool.not_eq_false', Bool.not_eq_eq_eq_not, Bool.not_true, Bool.not_false, Bool.and_eq_true, Bool.or_eq_true, Bool.or_eq_false_iff, beq_iff_eq, beq_eq_false_iff_ne, ne_eq, Int.not_lt, Int.not_le, Decidable.not_not] at hc48
          refine g_skip ?_
          refine g_next hK8 ?_
          refine g_seq (fun K11 hK11 => ?_)
          refine g_draw (n := 29) (fun j => !([] : List Nat).contains j) rfl rfl ?_
          refine m_take 0 true rfl rfl (by kernel_rfl) (by kernel_rfl) (by kernel_rfl) (fun _ _ _ _ h => h) (by first | exact v_loadl_all ty32 rfl rfl rfl rfl rfl | exact v_loadl_part (cs := [_, _, _, _, _, _, _]) ty32 rfl rfl rfl rfl rfl rfl) rfl rfl ?_
          refine m_take 2 true rfl rfl (by kernel_rfl) (by kernel_rfl) (by kernel_rfl) (fun _ _ _ _ h => h) (by first | exact v_loadl_all ty32 rfl rfl rfl rfl rfl | exact v_loadl_part (cs := [_, _, _, _, _, _, _]) ty32 rfl rfl rfl rfl rfl rfl) rfl rfl ?_
          refine m_one 1 (by kernel_rfl) rfl rfl ?_
          refine sm_callp rfl rfl rfl (recValid_ok a _ hsa) ?_
          rintro _ rfl
          refine m_one 3 (by kernel_rfl) rfl rfl ?_
          refine sm_callp rfl rfl rfl (may08_ok a _ hsa) ?_
          rintro _ rfl
          refine m_take 4 false rfl rfl (by kernel_rfl) (by kernel_rfl) (by kernel_rfl) (fun _ _ _ _ h => h) (v_bool_eql ty4 rfl rfl) rfl rfl ?_
          refine m_take 5 false rfl rfl (by kernel_rfl) (by kernel_rfl) (by kernel_rfl) (fun _ _ _ _ h => h) (v_move rfl) rfl rfl ?_
          refine m_split 54 rfl (fun hg54 => ?_) (fun hg54 => ?_)
          · try simp only [decide_eq_true_eq, decide_eq_false_iff_not, Bool.not_eq_true', Bool.not_eq_false', Bool.not_eq_eq_eq_not, Bool.not_true, Bool.not_false, Bool.and_eq_true, Bool.or_eq_true, Bool.or_eq_false_iff, beq_iff_eq, beq_eq_false_iff_ne, ne_eq, Int.not_lt, Int.not_le, Decidable.not_not] at hg54
            refine m_take_yes (j := 5) (t := 54) 6 true rfl rfl rfl rfl rfl (by kernel_rfl) (by kernel_rfl) (by kernel_rfl) (fun _ _ _ _ h => h) (by first | exact v_loadl_all ty32 rfl rfl rfl rfl rfl | exact v_loadl_part (cs := [_, _, _, _, _, _, _]) ty32 rfl rfl rfl rfl rfl rfl) rfl rfl ?_
            refine m_take_yes (j := 5) (t := 54) 7 true rfl rfl rfl rfl rfl (by kernel_rfl) (by kernel_rfl) (by kernel_rfl) (fun _ _ _ _ h => h) (by first | exact v_loadl_all ty32 rfl rfl rfl rfl rfl | exact v_loadl_part (cs := [_, _, _, _, _, _, _]) ty32 rfl rfl rfl rfl rfl rfl) rfl rfl ?_
            refine m_take_yes (j := 5) (t := 54) 9 true rfl rfl rfl rfl rfl (by kernel_rfl) (by kernel_rfl) (by kernel_rfl) (fun _ _ _ _ h => h) (by first | exact v_loadl_all ty32 rfl rfl rfl rfl rfl | exact v_loadl_part (cs := [_, _, _, _, _, _, _]) ty32 rfl rfl rfl rfl rfl rfl) rfl rfl ?_
            refine m_take_yes (j := 5) (t := 54) 10 true rfl rfl rfl rfl rfl (by kernel_rfl) (by kernel_rfl) (by kernel_rfl) (fun _ _ _ _ h => h) (by first | exact v_loadl_all ty32 rfl rfl rfl rfl rfl | exact v_loadl_part (cs := [_, _, _, _, _, _, _]) ty32 rfl rfl rfl rfl rfl rfl) rfl rfl ?_
            refine m_one_yes (j := 5) (t := 54) 8 (by kernel_rfl) rfl rfl rfl rfl rfl ?_
            refine sm_callp rfl rfl rfl (rsame_ok a b _ hsa) ?_
            rintro _ rfl
            refine m_one_yes (j := 5) (t := 54) 11 (by kernel_rfl) rfl rfl rfl rfl rfl ?_
            refine sm_callp rfl rfl rfl (alike_ok a b _ hsa) ?_
            rintro _ rfl
            refine m_take_yes (j := 5) (t := 54) 12 false rfl rfl rfl rfl rfl (by kernel_rfl) (by kernel_rfl) (by kernel_rfl) (fun _ _ _ _ h => h) (v_bool_eql ty4 rfl rfl) rfl rfl ?_
            refine m_take 13 false rfl rfl (by kernel_rfl) (by kernel_rfl) (by kernel_rfl) (fun _ _ _ _ h => h) (v_pick_t rfl rfl) rfl rfl ?_
            refine m_take 14 false rfl rfl (by kernel_rfl) (by kernel_rfl) (by kernel_rfl) (fun _ _ _ _ h => h) (v_move rfl) rfl rfl ?_
            refine m_split 63 rfl (fun hg63 => ?_) (fun hg63 => ?_)
            · try simp only [decide_eq_true_eq, decide_eq_false_iff_not, Bool.not_eq_true', Bool.not_eq_false', Bool.not_eq_eq_eq_not, Bool.not_true, Bool.not_false, Bool.and_eq_true, Bool.or_eq_true, Bool.or_eq_false_iff, beq_iff_eq, beq_eq_false_iff_ne, ne_eq, Int.not_lt, Int.not_le, Decidable.not_not] at hg63
              refine m_take_yes (j := 14) (t := 63) 15 true rfl rfl rfl rfl rfl (by kernel_rfl) (by kernel_rfl) (by kernel_rfl) (fun _ _ _ _ h => h) (by first | exact v_loadl_all ty32 rfl rfl rfl rfl rfl | exact v_loadl_part (cs := [_, _, _, _, _, _, _]) ty32 rfl rfl rfl rfl rfl rfl) rfl rfl ?_
              refine m_take_yes (j := 14) (t := 63) 16 true rfl rfl rfl rfl rfl (by kernel_rfl) (by kernel_rfl) (by kernel_rfl) (fun _ _ _ _ h => h) (by first | exact v_loadl_all ty32 rfl rfl rfl rfl rfl | exact v_loadl_part (cs := [_, _, _, _, _, _, _]) ty32 rfl rfl rfl rfl rfl rfl) rfl rfl ?_
              refine m_take_yes (j := 14) (t := 63) 18 true rfl rfl rfl rfl rfl (by kernel_rfl) (by kernel_rfl) (by kernel_rfl) (fun _ _ _ _ h => h) (by first | exact v_loadl_all ty32 rfl rfl rfl rfl rfl | exact v_loadl_part (cs := [_, _, _, _, _, _, _]) ty32 rfl rfl rfl rfl rfl rfl) rfl rfl ?_
              refine m_take_yes (j := 14) (t := 63) 20 true rfl rfl rfl rfl rfl (by kernel_rfl) (by kernel_rfl) (by kernel_rfl) (fun _ _ _ _ h => h) (by first | exact v_loadl_all ty32 rfl rfl rfl rfl rfl | exact v_loadl_part (cs := [_, _, _, _, _, _, _]) ty32 rfl rfl rfl rfl rfl rfl) rfl rfl ?_
              refine m_one_yes (j := 14) (t := 63) 17 (by kernel_rfl) rfl rfl rfl rfl rfl ?_
              refine sm_callp rfl rfl rfl (akin_ok a b _) ?_
              rintro _ rfl
              refine m_one_yes (j := 14) (t := 63) 19 (by kernel_rfl) rfl rfl rfl rfl rfl ?_
              refine sm_callp rfl rfl rfl (core_ok a _) ?_
              rintro _ rfl
              refine m_one_yes (j := 14) (t := 63) 21 (by kernel_rfl) rfl rfl rfl rfl rfl ?_
              refine sm_callp rfl rfl rfl (core_ok b _) ?_
              rintro _ rfl
              refine m_one_yes (j := 14) (t := 63) 22 (by kernel_rfl) rfl rfl rfl rfl rfl ?_
              refine sm_callp rfl rfl rfl (alike_ok (core a) (core b) _ (hs0 a)) ?_
              rintro _ rfl
              refine m_take_yes (j := 14) (t := 63) 23 false rfl rfl rfl rfl rfl (by kernel_rfl) (by kernel_rfl) (by kernel_rfl) (fun _ _ _ _ h => h) (v_bool_eql ty4 rfl rfl) rfl rfl ?_
              refine m_take 24 false rfl rfl (by kernel_rfl) (by kernel_rfl) (by kernel_rfl) (fun _ _ _ _ h => h) (v_pick_t rfl rfl) rfl rfl ?_
              refine m_take 25 false rfl rfl (by kernel_rfl) (by kernel_rfl) (by kernel_rfl) (fun _ _ _ _ h => h) (v_move rfl) rfl rfl ?_
              refine m_split 74 rfl (fun hg74 => ?_) (fun hg74 => ?_)
              · try simp only [decide_eq_true_eq, decide_eq_false_iff_not, Bool.not_eq_true', Bool.not_eq_false', Bool.not_eq_eq_eq_not, Bool.not_true, Bool.not_false, Bool.and_eq_true, Bool.or_eq_true, Bool.or_eq_false_iff, beq_iff_eq, beq_eq_false_iff_ne, ne_eq, Int.not_lt, Int.not_le, Decidable.not_not] at hg74
                refine m_one_yes (j := 25) (t := 74) 26 (by kernel_rfl) rfl rfl rfl rfl rfl ?_
                refine sm_callp rfl rfl rfl (awake08_ok _) ?_
                rintro _ rfl
                refine m_take 27 false rfl rfl (by kernel_rfl) (by kernel_rfl) (by kernel_rfl) (fun _ _ _ _ h => h) (v_pick_t rfl rfl) rfl rfl ?_
                refine m_take 28 false rfl rfl (by kernel_rfl) (by kernel_rfl) (by kernel_rfl) (fun _ _ _ _ h => h) (v_assign rfl) rfl rfl ?_
                refine m_done (by kernel_rfl) ?_
                refine g_next hK11 ?_
                refine g_keep [4] [] [] rfl rfl rfl rfl ?_
                refine g_ret ?_
                refine g_end1 (.inl rfl) Try.results6 (.tmp rfl) [] (ASub.refl _) (AHeap.sub_refl _) (fun p hp => by cases hp) ⟨rfl, ?_⟩
                rfl
              · exfalso; (try simp only [decide_eq_true_eq, decide_eq_false_iff_not, Bool.not_eq_true', Bool.not_eq_false', Bool.not_eq_eq_eq_not, Bool.not_true, Bool.not_false, Bool.and_eq_true, Bool.or_eq_true, Bool.or_eq_false_iff, beq_iff_eq, beq_eq_false_iff_ne, ne_eq, Int.not_lt, Int.not_le, Decidable.not_not] at hg74); simp [akin_core] at hg74
            · exfalso; (try simp only [decide_eq_true_eq, decide_eq_false_iff_not, Bool.not_eq_true', Bool.not_eq_false', Bool.not_eq_eq_eq_not, Bool.not_true, Bool.not_false, Bool.and_eq_true, Bool.or_eq_true, Bool.or_eq_false_iff, beq_iff_eq, beq_eq_false_iff_ne, ne_eq, Int.not_lt, Int.not_le, Decidable.not_not] at hg63); simp at hg63
          · exfalso; (try simp only [decide_eq_true_eq, decide_eq_false_iff_not, Bool.not_eq_true', Bool.not_eq_false', Bool.not_eq_eq_eq_not, Bool.not_true, Bool.not_false, Bool.and_eq_true, Bool.or_eq_true, Bool.or_eq_false_iff, beq_iff_eq, beq_eq_false_iff_ne, ne_eq, Int.not_lt, Int.not_le, Decidable.not_not] at hg54); simp at hg54

theorem recNames_ok (n : Int) (s : ByteArray) (hs : s.size ≤ 140737488351232) (G : AHeap) : PCalls Try.prog 3 [.int .i64 n, .str s] G (fun v => v = .bool true) := by
  refine LCalls.intro 74 fi3 rfl Try.ntmps3 rfl (fun _ h => h.elim) (fun H hH w0 hw0 => ?_)
  refine g_seq (fun K0 hK0 => ?_)
  refine g_region ?_
  refine g_step rfl (s_val (v_assign rfl) rfl rfl ?_)
  refine g_nil ?_
  refine g_next hK0 ?_
  refine g_seq (fun K1 hK1 => ?_)
  refine g_seq (fun K2 hK2 => ?_)
  refine g_region ?_
  refine g_step rfl (s_val (v_move rfl) rfl rfl ?_)
  refine g_step rfl (s_val (v_len_str ty9 rfl) rfl rfl ?_)
  refine g_step rfl (s_val (v_gtr rfl rfl) rfl rfl ?_)
  refine g_nil ?_
  refine g_next hK2 ?_
  refine g_cond rfl (fun hc13 => ?_) (fun hc13 => ?_)
  · try simp only [decide_eq_true_eq, decide_eq_false_iff_not, Bool.not_eq_true', Bool.not_eq_false', Bool.not_eq_eq_eq_not, Bool.not_true, Bool.not_false, Bool.and_eq_true, Bool.or_eq_true, Bool.or_eq_false_iff, beq_iff_eq, beq_eq_false_iff_ne, ne_eq, Int.not_lt, Int.not_le, Decidable.not_not] at hc13
    refine g_seq (fun K3 hK3 => ?_)
    refine g_region ?_
    refine g_step rfl (s_callp rfl rfl rfl (awake08_ok _) ?_)
    rintro _ rfl
    refine g_step rfl (s_val (v_assign rfl) rfl rfl ?_)
    refine g_nil ?_
    refine g_next hK3 ?_
    refine g_ret ?_
    refine g_then_ret ?_
    refine g_end1 (.inl rfl) Try.results3 (.tmp rfl) [] (ASub.refl _) (AHeap.sub_refl _) (fun p hp => by cases hp) ⟨rfl, ?_⟩
    rfl
  · try simp only [decide_eq_true_eq, decide_eq_false_iff_not, Bool.not_eq_true', Bool.not_eq_false', Bool.not_eq_eq_eq_not, Bool.not_true, Bool.not_false, Bool.and_eq_true, Bool.or_eq_true, Bool.or_eq_false_iff, beq_iff_eq, beq_eq_false_iff_ne, ne_eq, Int.not_lt, Int.not_le, Decidable.not_not] at hc13
    refine g_skip ?_
    refine g_next hK1 ?_
    refine g_seq (fun K4 hK4 => ?_)
    refine g_region ?_
    refine g_step rfl (s_val (v_move rfl) rfl rfl ?_)
    refine g_step rfl (s_callp rfl rfl rfl (name_ok n _) ?_)
    rintro _ rfl
    refine g_step rfl (s_val (v_assign rfl) rfl rfl ?_)
    refine g_nil ?_
    refine g_next hK4 ?_
    refine g_seq (fun K5 hK5 => ?_)
    refine g_region ?_
    refine g_step rfl (s_val (v_move rfl) rfl rfl ?_)
    refine g_step rfl (s_callp rfl rfl rfl (status_ok s _) ?_)
    rintro _ rfl
    refine g_step rfl (s_val (v_move rfl) rfl rfl ?_)
    refine g_step rfl (s_val (v_extract rfl rfl) rfl rfl ?_)
    refine g_step rfl (s_val (v_extract rfl rfl) rfl rfl ?_)
    refine g_step rfl (s_val (v_assign rfl) rfl rfl ?_)
    refine g_step rfl (s_val (v_assign rfl) rfl rfl ?_)
    refine g_nil ?_
    refine g_next hK5 ?_
    refine g_seq (fun K6 hK6 => ?_)
    refine g_seq (fun K7 hK7 => ?_)
    refine g_region ?_
    refine g_step rfl (s_val (v_move rfl) rfl rfl ?_)
    refine g_step rfl (s_val (v_lss rfl rfl) rfl rfl ?_)
    refine g_step rfl (s_val (v_move rfl) rfl rfl ?_)
    refine g_split 24 rfl (fun hg24 => ?_) (fun hg24 => ?_)
    · try simp only [decide_eq_true_eq, decide_eq_false_iff_not, Bool.not_eq_true', Bool.not_eq_false', Bool.not_eq_eq_eq_not, Bool.not_true, Bool.not_false, Bool.and_eq_true, Bool.or_eq_true, Bool.or_eq_false_iff, beq_iff_eq, beq_eq_false_iff_ne, ne_eq, Int.not_lt, Int.not_le, Decidable.not_not] at hg24
      refine g_step_no (j := 2) (t := 24) rfl rfl rfl rfl rfl rfl rfl ?_
      refine g_step_no (j := 2) (t := 24) rfl rfl rfl rfl rfl rfl rfl ?_
      refine g_step rfl (s_val (v_pick_t rfl rfl) rfl rfl ?_)
      refine g_step rfl (s_val (v_move rfl) rfl rfl ?_)
      refine g_step_yes (j := 6) (t := 28) rfl rfl rfl rfl (s_val (v_move rfl) rfl rfl ?_)
      refine g_step_yes (j := 6) (t := 28) rfl rfl rfl rfl (s_val (v_sne rfl rfl) rfl rfl ?_)
      refine g_step rfl (s_val (v_pick_t rfl rfl) rfl rfl ?_)
      refine g_nil ?_
      refine g_next hK7 ?_
      refine g_keep [1, 6, 7, 31] [] [] rfl rfl rfl rfl ?_
      refine g_cond rfl (fun hc31 => ?_) (fun hc31 => ?_)
      · exfalso; (try simp only [decide_eq_true_eq, decide_eq_false_iff_not, Bool.not_eq_true', Bool.not_eq_false', Bool.not_eq_eq_eq_not, Bool.not_true, Bool.not_false, Bool.and_eq_true, Bool.or_eq_true, Bool.or_eq_false_iff, beq_iff_eq, beq_eq_false_iff_ne, ne_eq, Int.not_lt, Int.not_le, Decidable.not_not] at hc31); first | (have h1 : stName n = ⟨#[]⟩ := if_pos (by omega); simp [h1] at hc31; done) | (simp_all; omega) | simp_all
      · try simp only [decide_eq_true_eq, decide_eq_false_iff_not, Bool.not_eq_true', Bool.not_eq_false', Bool.not_eq_eq_eq_not, Bool.not_true, Bool.not_false, Bool.and_eq_true, Bool.or_eq_true, Bool.or_eq_false_iff, beq_iff_eq, beq_eq_false_iff_ne, ne_eq, Int.not_lt, Int.not_le, Decidable.not_not] at hc31
        refine g_skip ?_
        refine g_next hK6 ?_
        refine g_seq (fun K8 hK8 => ?_)
        refine g_region ?_
        refine g_step rfl (s_lit ty26 ty9 rfl rfl rfl rfl rfl rfl rfl ?_)
        refine g_step rfl (s_val (v_assign rfl) rfl rfl ?_)
        refine g_nil ?_
        refine g_next hK8 ?_
        refine g_seq (fun K9 hK9 => ?_)
        refine g_region ?_
        refine g_step rfl (s_val (v_assign rfl) rfl rfl ?_)
        refine g_nil ?_
        refine g_next hK9 ?_
        refine g_seq (fun K10 hK10 => ?_)
        refine g_seq (fun K11 hK11 => ?_)
        refine g_region ?_
        refine g_step rfl (s_val (v_assign rfl) rfl rfl ?_)
        refine g_nil ?_
        refine g_next hK11 ?_
        refine g_block ?_
        refine g_keep [1, 6, 7, 8, 9, 10] [] [] rfl rfl rfl rfl ?_
        refine g_loop (fun n env L B G => ∃ (k : Nat) (u : Int), k ≤ 4 ∧ n = 4 - k ∧ env = [(1, .str s), (6, .int .i64 (if stOf s < 0 then 0 else stOf s)), (7, .bool (decide (0 ≤ stOf s))), (8, .imm (stNames.map .str)), (9, .int .i64 u), (10, .int .i64 (k : Int))] ∧ L = [] ∧ B = [] ∧ H = G ∧ lastI (stNames.drop k) (k : Int) s u = stOf s) (4) ⟨0, (-1), Nat.zero_le _, rfl, rfl, rfl, rfl, rfl, lastI_eq s⟩ (fun n env L B G hI => ?_)
        obtain ⟨k, u, hk, rfl, rfl, rfl, rfl, rfl, hc⟩ := hI
        refine g_seq (fun K12 hK12 => ?_)
        refine g_seq (fun K13 hK13 => ?_)
        refine g_region ?_
        refine g_step rfl (s_val (v_move rfl) rfl rfl ?_)
        refine g_step rfl (s_val (v_lss rfl rfl) rfl rfl ?_)
        refine g_nil ?_
        refine g_next hK13 ?_
        refine g_cond rfl (fun hc34 => ?_) (fun hc34 => ?_)
        · try simp only [decide_eq_true_eq, decide_eq_false_iff_not, Bool.not_eq_true', Bool.not_eq_false', Bool.not_eq_eq_eq_not, Bool.not_true, Bool.not_false, Bool.and_eq_true, Bool.or_eq_true, Bool.or_eq_false_iff, beq_iff_eq, beq_eq_false_iff_ne, ne_eq, Int.not_lt, Int.not_le, Decidable.not_not] at hc34
          obtain ⟨x, hx⟩ := get_some (l := stNames) (k := k) (by show k < 4; omega)
          have hnx : stName (k : Int) = x := by have := stName_get (n := (k : Int)) (by omega) (by omega); rw [show ((k : Int)).toNat = k by omega, hx] at this; exact (Option.some.inj this).symm
          refine g_skip ?_
          refine g_next hK12 ?_
          refine g_seq (fun K14 hK14 => ?_)
          refine g_block ?_
          refine g_seq (fun K15 hK15 => ?_)
          refine g_seq (fun K16 hK16 => ?_)
          refine g_draw (n := 7) (fun j => !([] : List Nat).contains j) rfl rfl ?_
          refine m_take 0 false rfl rfl (by kernel_rfl) (by kernel_rfl) (by kernel_rfl) (fun _ _ _ _ h => h) (v_move rfl) rfl rfl ?_
          refine m_take 2 false rfl rfl (by kernel_rfl) (by kernel_rfl) (by kernel_rfl) (fun _ _ _ _ h => h) (v_move rfl) rfl rfl ?_
          refine m_take 3 false rfl rfl (by kernel_rfl) (by kernel_rfl) (by kernel_rfl) (fun _ _ _ _ h => h) (v_move rfl) rfl rfl ?_
          refine m_take 4 false rfl rfl (by kernel_rfl) (by kernel_rfl) (by kernel_rfl) (fun _ _ _ _ h => h) (v_indexAddr ty26 ty9 rfl rfl (by first | rfl | assumption) (by first | rfl | exact (rfl : (0 : Int) = ((0 : Nat) : Int)) | exact (Int.toNat_of_nonneg (by omega)).symm) (by first | assumption | exact map_get (by assumption) | rfl) rfl) rfl rfl ?_
          refine m_take 5 true rfl rfl (by kernel_rfl) (by kernel_rfl) (by kernel_rfl) (fun _ _ _ _ h => h) (by first | exact v_load ty9 rfl rfl (by first | rfl | assumption) (by first | assumption | exact map_get (by assumption) | rfl) rfl | exact v_load_box ty9 rfl rfl (by assumption) rfl) rfl rfl ?_
          refine m_one 1 (by kernel_rfl) rfl rfl ?_
          refine sm_callp rfl rfl rfl (name_ok (k : Int) _) ?_
          rintro _ rfl
          refine m_take 6 false rfl rfl (by kernel_rfl) (by kernel_rfl) (by kernel_rfl) (fun _ _ _ _ h => h) (v_sne rfl rfl) rfl rfl ?_
          refine m_done (by kernel_rfl) ?_
          refine g_next hK16 ?_
          refine g_cond rfl (fun hc43 => ?_) (fun hc43 => ?_)
          · exfalso; (try simp only [decide_eq_true_eq, decide_eq_false_iff_not, Bool.not_eq_true', Bool.not_eq_false', Bool.not_eq_eq_eq_not, Bool.not_true, Bool.not_false, Bool.and_eq_true, Bool.or_eq_true, Bool.or_eq_false_iff, beq_iff_eq, beq_eq_false_iff_ne, ne_eq, Int.not_lt, Int.not_le, Decidable.not_not] at hc43); simp [hnx] at hc43
          · try simp only [decide_eq_true_eq, decide_eq_false_iff_not, Bool.not_eq_true', Bool.not_eq_false', Bool.not_eq_eq_eq_not, Bool.not_true, Bool.not_false, Bool.and_eq_true, Bool.or_eq_true, Bool.or_eq_false_iff, beq_iff_eq, beq_eq_false_iff_ne, ne_eq, Int.not_lt, Int.not_le, Decidable.not_not] at hc43
            refine g_skip ?_
            refine g_next hK15 ?_
            refine g_seq (fun K17 hK17 => ?_)
            refine g_region ?_
            refine g_step rfl (s_val (v_move rfl) rfl rfl ?_)
            refine g_step rfl (s_val (v_move rfl) rfl rfl ?_)
            refine g_step rfl (s_val (v_indexAddr ty26 ty9 rfl rfl (by first | rfl | assumption) (by first | rfl | exact (rfl : (0 : Int) = ((0 : Nat) : Int)) | exact (Int.toNat_of_nonneg (by omega)).symm) (by first | assumption | exact map_get (by assumption) | rfl) rfl) rfl rfl ?_)
            refine g_step rfl (s_val (by first | exact v_load ty9 rfl rfl (by first | rfl | assumption) (by first | assumption | exact map_get (by assumption) | rfl) rfl | exact v_load_box ty9 rfl rfl (by assumption) rfl) rfl rfl ?_)
            refine g_step rfl (s_val (v_move rfl) rfl rfl ?_)
            refine g_step rfl (s_val (v_seq rfl rfl) rfl rfl ?_)
            refine g_nil ?_
            refine g_next hK17 ?_
            refine g_cond rfl (fun hc49 => ?_) (fun hc49 => ?_)
            · try simp only [decide_eq_true_eq, decide_eq_false_iff_not, Bool.not_eq_true', Bool.not_eq_false', Bool.not_eq_eq_eq_not, Bool.not_true, Bool.not_false, Bool.and_eq_true, Bool.or_eq_true, Bool.or_eq_false_iff, beq_iff_eq, beq_eq_false_iff_ne, ne_eq, Int.not_lt, Int.not_le, Decidable.not_not] at hc49
              refine g_region ?_
              refine g_step rfl (s_val (v_move rfl) rfl rfl ?_)
              refine g_step rfl (s_val (v_assign rfl) rfl rfl ?_)
              refine g_nil ?_
              refine g_block_normal ?_
              refine g_next hK14 ?_
              refine g_region ?_
              refine g_step rfl (s_val (v_move rfl) rfl rfl ?_)
              refine g_step rfl (s_val (v_add rfl rfl (by omega)) rfl rfl ?_)
              refine g_step rfl (s_val (v_assign rfl) rfl rfl ?_)
              refine g_nil ?_
              refine g_keep [1, 6, 7, 8, 9, 10] [] [] rfl rfl rfl rfl ?_
              exact g_round _ (by omega) ⟨k + 1, _, by omega, rfl, rfl, rfl, rfl, rfl, by rw [drop_cons hx, lastI] at hc; first | (rw [if_pos hc49] at hc; exact hc) | (rw [if_neg hc49] at hc; exact hc)⟩
            · try simp only [decide_eq_true_eq, decide_eq_false_iff_not, Bool.not_eq_true', Bool.not_eq_false', Bool.not_eq_eq_eq_not, Bool.not_true, Bool.not_false, Bool.and_eq_true, Bool.or_eq_true, Bool.or_eq_false_iff, beq_iff_eq, beq_eq_false_iff_ne, ne_eq, Int.not_lt, Int.not_le, Decidable.not_not] at hc49
              refine g_skip ?_
              refine g_block_normal ?_
              refine g_next hK14 ?_
              refine g_region ?_
              refine g_step rfl (s_val (v_move rfl) rfl rfl ?_)
              refine g_step rfl (s_val (v_add rfl rfl (by omega)) rfl rfl ?_)
              refine g_step rfl (s_val (v_assign rfl) rfl rfl ?_)
              refine g_nil ?_
              refine g_keep [1, 6, 7, 8, 9, 10] [] [] rfl rfl rfl rfl ?_
              exact g_round _ (by omega) ⟨k + 1, _, by omega, rfl, rfl, rfl, rfl, rfl, by rw [drop_cons hx, lastI] at hc; first | (rw [if_pos hc49] at hc; exact hc) | (rw [if_neg hc49] at hc; exact hc)⟩
        · try simp only [decide_eq_true_eq, decide_eq_false_iff_not, Bool.not_eq_true', Bool.not_eq_false', Bool.not_eq_eq_eq_not, Bool.not_true, Bool.not_false, Bool.and_eq_true, Bool.or_eq_true, Bool.or_eq_false_iff, beq_iff_eq, beq_eq_false_iff_ne, ne_eq, Int.not_lt, Int.not_le, Decidable.not_not] at hc34
          obtain rfl : k = 4 := by omega
          obtain rfl : u = stOf s := hc
          refine g_exit ?_
          refine g_then_exit ?_
          refine g_then_exit ?_
          refine g_block_same ?_
          refine g_next hK10 ?_
          refine g_seq (fun K18 hK18 => ?_)
          refine g_region ?_
          refine g_step rfl (s_val (v_move rfl) rfl rfl ?_)
          refine g_step rfl (s_val (v_move rfl) rfl rfl ?_)
          refine g_step rfl (s_val (v_geq rfl rfl) rfl rfl ?_)
          refine g_step rfl (s_val (v_bool_eql ty4 rfl rfl) rfl rfl ?_)
          refine g_step rfl (s_val (v_move rfl) rfl rfl ?_)
          refine g_split 55 rfl (fun hg55 => ?_) (fun hg55 => ?_)
          · try simp only [decide_eq_true_eq, decide_eq_false_iff_not, Bool.not_eq_true', Bool.not_eq_false', Bool.not_eq_eq_eq_not, Bool.not_true, Bool.not_false, Bool.and_eq_true, Bool.or_eq_true, Bool.or_eq_false_iff, beq_iff_eq, beq_eq_false_iff_ne, ne_eq, Int.not_lt, Int.not_le, Decidable.not_not] at hg55
            refine g_step_yes (j := 4) (t := 55) rfl rfl rfl rfl (s_val (v_move rfl) rfl rfl ?_)
            refine g_step_yes (j := 4) (t := 55) rfl rfl rfl rfl (s_val (v_not rfl) rfl rfl ?_)
            refine g_step_yes (j := 4) (t := 55) rfl rfl rfl rfl (s_val (v_move rfl) rfl rfl ?_)
            refine g_split 58 rfl (fun hg58 => ?_) (fun hg58 => ?_)
            · try simp only [decide_eq_true_eq, decide_eq_false_iff_not, Bool.not_eq_true', Bool.not_eq_false', Bool.not_eq_eq_eq_not, Bool.not_true, Bool.not_false, Bool.and_eq_true, Bool.or_eq_true, Bool.or_eq_false_iff, beq_iff_eq, beq_eq_false_iff_ne, ne_eq, Int.not_lt, Int.not_le, Decidable.not_not] at hg58
              refine g_step_no (j := 7) (t := 58) rfl rfl rfl rfl rfl rfl rfl ?_
              refine g_step_no (j := 7) (t := 58) rfl rfl rfl rfl rfl rfl rfl ?_
              refine g_step_no (j := 7) (t := 58) rfl rfl rfl rfl rfl rfl rfl ?_
              refine g_step_yes (j := 4) (t := 55) rfl rfl rfl rfl (s_val (v_pick_t rfl rfl) rfl rfl ?_)
              refine g_step rfl (s_val (v_pick_t rfl rfl) rfl rfl ?_)
              refine g_step rfl (s_val (v_move rfl) rfl rfl ?_)
              refine g_step_yes (j := 13) (t := 64) rfl rfl rfl rfl (s_val (v_move rfl) rfl rfl ?_)
              refine g_step_yes (j := 13) (t := 64) rfl rfl rfl rfl (s_val (v_move rfl) rfl rfl ?_)
              refine g_split 66 rfl (fun hg66 => ?_) (fun hg66 => ?_)
              · try simp only [decide_eq_true_eq, decide_eq_false_iff_not, Bool.not_eq_true', Bool.not_eq_false', Bool.not_eq_eq_eq_not, Bool.not_true, Bool.not_false, Bool.and_eq_true, Bool.or_eq_true, Bool.or_eq_false_iff, beq_iff_eq, beq_eq_false_iff_ne, ne_eq, Int.not_lt, Int.not_le, Decidable.not_not] at hg66
                refine g_step_no (j := 15) (t := 66) rfl rfl rfl rfl rfl rfl rfl ?_
                refine g_step_no (j := 15) (t := 66) rfl rfl rfl rfl rfl rfl rfl ?_
                refine g_step_yes (j := 13) (t := 64) rfl rfl rfl rfl (s_val (v_pick_t rfl rfl) rfl rfl ?_)
                refine g_step rfl (s_val (v_pick_t rfl rfl) rfl rfl ?_)
                refine g_step rfl (s_val (v_move rfl) rfl rfl ?_)
                refine g_step_yes (j := 20) (t := 71) rfl rfl rfl rfl (s_callp rfl rfl rfl (awake08_ok _) ?_)
                rintro _ rfl
                refine g_step rfl (s_val (v_pick_t rfl rfl) rfl rfl ?_)
                refine g_step rfl (s_val (v_assign rfl) rfl rfl ?_)
                refine g_nil ?_
                refine g_next hK18 ?_
                refine g_keep [4] [] [] rfl rfl rfl rfl ?_
                refine g_ret ?_
                refine g_end1 (.inl rfl) Try.results3 (.tmp rfl) [] (ASub.refl _) (AHeap.sub_refl _) (fun p hp => by cases hp) ⟨rfl, ?_⟩
                rfl
              · try simp only [decide_eq_true_eq, decide_eq_false_iff_not, Bool.not_eq_true', Bool.not_eq_false', Bool.not_eq_eq_eq_not, Bool.not_true, Bool.not_false, Bool.and_eq_true, Bool.or_eq_true, Bool.or_eq_false_iff, beq_iff_eq, beq_eq_false_iff_ne, ne_eq, Int.not_lt, Int.not_le, Decidable.not_not] at hg66
                refine g_step_yes (j := 15) (t := 66) rfl rfl rfl rfl (s_val (v_move rfl) rfl rfl ?_)
                refine g_step_yes (j := 15) (t := 66) rfl rfl rfl rfl (s_val (v_eql rfl rfl) rfl rfl ?_)
                refine g_step_yes (j := 13) (t := 64) rfl rfl rfl rfl (s_val (v_pick_f rfl rfl) rfl rfl ?_)
                refine g_step rfl (s_val (v_pick_t rfl rfl) rfl rfl ?_)
                refine g_step rfl (s_val (v_move rfl) rfl rfl ?_)
                refine g_split 71 rfl (fun hg71 => ?_) (fun hg71 => ?_)
                · try simp only [decide_eq_true_eq, decide_eq_false_iff_not, Bool.not_eq_true', Bool.not_eq_false', Bool.not_eq_eq_eq_not, Bool.not_true, Bool.not_false, Bool.and_eq_true, Bool.or_eq_true, Bool.or_eq_false_iff, beq_iff_eq, beq_eq_false_iff_ne, ne_eq, Int.not_lt, Int.not_le, Decidable.not_not] at hg71
                  refine g_step_yes (j := 20) (t := 71) rfl rfl rfl rfl (s_callp rfl rfl rfl (awake08_ok _) ?_)
                  rintro _ rfl
                  refine g_step rfl (s_val (v_pick_t rfl rfl) rfl rfl ?_)
                  refine g_step rfl (s_val (v_assign rfl) rfl rfl ?_)
                  refine g_nil ?_
                  refine g_next hK18 ?_
                  refine g_keep [4] [] [] rfl rfl rfl rfl ?_
                  refine g_ret ?_
                  refine g_end1 (.inl rfl) Try.results3 (.tmp rfl) [] (ASub.refl _) (AHeap.sub_refl _) (fun p hp => by cases hp) ⟨rfl, ?_⟩
                  rfl
                · exfalso; (try simp only [decide_eq_true_eq, decide_eq_false_iff_not, Bool.not_eq_true', Bool.not_eq_false', Bool.not_eq_eq_eq_not, Bool.not_true, Bool.not_false, Bool.and_eq_true, Bool.or_eq_true, Bool.or_eq_false_iff, beq_iff_eq, beq_eq_false_iff_ne, ne_eq, Int.not_lt, Int.not_le, Decidable.not_not] at hg71); first | (rw [if_pos (by omega)] at hg71; omega) | simp_all
            · try simp only [decide_eq_true_eq, decide_eq_false_iff_not, Bool.not_eq_true', Bool.not_eq_false', Bool.not_eq_eq_eq_not, Bool.not_true, Bool.not_false, Bool.and_eq_true, Bool.or_eq_true, Bool.or_eq_false_iff, beq_iff_eq, beq_eq_false_iff_ne, ne_eq, Int.not_lt, Int.not_le, Decidable.not_not] at hg58
              refine g_step_yes (j := 7) (t := 58) rfl rfl rfl rfl (s_val (v_move rfl) rfl rfl ?_)
              refine g_step_yes (j := 7) (t := 58) rfl rfl rfl rfl (s_val (v_move rfl) rfl rfl ?_)
              refine g_step_yes (j := 7) (t := 58) rfl rfl rfl rfl (s_val (v_eql rfl rfl) rfl rfl ?_)
              refine g_step_yes (j := 4) (t := 55) rfl rfl rfl rfl (s_val (v_pick_f rfl rfl) rfl rfl ?_)
              refine g_step rfl (s_val (v_pick_t rfl rfl) rfl rfl ?_)
              refine g_step rfl (s_val (v_move rfl) rfl rfl ?_)
              refine g_split 64 rfl (fun hg64 => ?_) (fun hg64 => ?_)
              · try simp only [decide_eq_true_eq, decide_eq_false_iff_not, Bool.not_eq_true', Bool.not_eq_false', Bool.not_eq_eq_eq_not, Bool.not_true, Bool.not_false, Bool.and_eq_true, Bool.or_eq_true, Bool.or_eq_false_iff, beq_iff_eq, beq_eq_false_iff_ne, ne_eq, Int.not_lt, Int.not_le, Decidable.not_not] at hg64
                refine g_step_yes (j := 13) (t := 64) rfl rfl rfl rfl (s_val (v_move rfl) rfl rfl ?_)
                refine g_step_yes (j := 13) (t := 64) rfl rfl rfl rfl (s_val (v_move rfl) rfl rfl ?_)
                refine g_split 66 rfl (fun hg66 => ?_) (fun hg66 => ?_)
                · try simp only [decide_eq_true_eq, decide_eq_false_iff_not, Bool.not_eq_true', Bool.not_eq_false', Bool.not_eq_eq_eq_not, Bool.not_true, Bool.not_false, Bool.and_eq_true, Bool.or_eq_true, Bool.or_eq_false_iff, beq_iff_eq, beq_eq_false_iff_ne, ne_eq, Int.not_lt, Int.not_le, Decidable.not_not] at hg66
                  refine g_step_no (j := 15) (t := 66) rfl rfl rfl rfl rfl rfl rfl ?_
                  refine g_step_no (j := 15) (t := 66) rfl rfl rfl rfl rfl rfl rfl ?_
                  refine g_step_yes (j := 13) (t := 64) rfl rfl rfl rfl (s_val (v_pick_t rfl rfl) rfl rfl ?_)
                  refine g_step rfl (s_val (v_pick_t rfl rfl) rfl rfl ?_)
                  refine g_step rfl (s_val (v_move rfl) rfl rfl ?_)
                  refine g_step_yes (j := 20) (t := 71) rfl rfl rfl rfl (s_callp rfl rfl rfl (awake08_ok _) ?_)
                  rintro _ rfl
                  refine g_step rfl (s_val (v_pick_t rfl rfl) rfl rfl ?_)
                  refine g_step rfl (s_val (v_assign rfl) rfl rfl ?_)
                  refine g_nil ?_
                  refine g_next hK18 ?_
                  refine g_keep [4] [] [] rfl rfl rfl rfl ?_
                  refine g_ret ?_
                  refine g_end1 (.inl rfl) Try.results3 (.tmp rfl) [] (ASub.refl _) (AHeap.sub_refl _) (fun p hp => by cases hp) ⟨rfl, ?_⟩
                  rfl
                · try simp only [decide_eq_true_eq, decide_eq_false_iff_not, Bool.not_eq_true', Bool.not_eq_false', Bool.not_eq_eq_eq_not, Bool.not_true, Bool.not_false, Bool.and_eq_true, Bool.or_eq_true, Bool.or_eq_false_iff, beq_iff_eq, beq_eq_false_iff_ne, ne_eq, Int.not_lt, Int.not_le, Decidable.not_not] at hg66
                  refine g_step_yes (j := 15) (t := 66) rfl rfl rfl rfl (s_val (v_move rfl) rfl rfl ?_)
                  refine g_step_yes (j := 15) (t := 66) rfl rfl rfl rfl (s_val (v_eql rfl rfl) rfl rfl ?_)
                  refine g_step_yes (j := 13) (t := 64) rfl rfl rfl rfl (s_val (v_pick_f rfl rfl) rfl rfl ?_)
                  refine g_step rfl (s_val (v_pick_t rfl rfl) rfl rfl ?_)
                  refine g_step rfl (s_val (v_move rfl) rfl rfl ?_)
                  refine g_split 71 rfl (fun hg71 => ?_) (fun hg71 => ?_)
                  · try simp only [decide_eq_true_eq, decide_eq_false_iff_not, Bool.not_eq_true', Bool.not_eq_false', Bool.not_eq_eq_eq_not, Bool.not_true, Bool.not_false, Bool.and_eq_true, Bool.or_eq_true, Bool.or_eq_false_iff, beq_iff_eq, beq_eq_false_iff_ne, ne_eq, Int.not_lt, Int.not_le, Decidable.not_not] at hg71
                    refine g_step_yes (j := 20) (t := 71) rfl rfl rfl rfl (s_callp rfl rfl rfl (awake08_ok _) ?_)
                    rintro _ rfl
                    refine g_step rfl (s_val (v_pick_t rfl rfl) rfl rfl ?_)
                    refine g_step rfl (s_val (v_assign rfl) rfl rfl ?_)
                    refine g_nil ?_
                    refine g_next hK18 ?_
                    refine g_keep [4] [] [] rfl rfl rfl rfl ?_
                    refine g_ret ?_
                    refine g_end1 (.inl rfl) Try.results3 (.tmp rfl) [] (ASub.refl _) (AHeap.sub_refl _) (fun p hp => by cases hp) ⟨rfl, ?_⟩
                    rfl
                  · exfalso; (try simp only [decide_eq_true_eq, decide_eq_false_iff_not, Bool.not_eq_true', Bool.not_eq_false', Bool.not_eq_eq_eq_not, Bool.not_true, Bool.not_false, Bool.and_eq_true, Bool.or_eq_true, Bool.or_eq_false_iff, beq_iff_eq, beq_eq_false_iff_ne, ne_eq, Int.not_lt, Int.not_le, Decidable.not_not] at hg71); first | (rw [if_pos (by omega)] at hg71; omega) | simp_all
              · exfalso; (try simp only [decide_eq_true_eq, decide_eq_false_iff_not, Bool.not_eq_true', Bool.not_eq_false', Bool.not_eq_eq_eq_not, Bool.not_true, Bool.not_false, Bool.and_eq_true, Bool.or_eq_true, Bool.or_eq_false_iff, beq_iff_eq, beq_eq_false_iff_ne, ne_eq, Int.not_lt, Int.not_le, Decidable.not_not] at hg64); first | (simp_all; done) | (simp_all; omega)
          · exfalso; (try simp only [decide_eq_true_eq, decide_eq_false_iff_not, Bool.not_eq_true', Bool.not_eq_false', Bool.not_eq_eq_eq_not, Bool.not_true, Bool.not_false, Bool.and_eq_true, Bool.or_eq_true, Bool.or_eq_false_iff, beq_iff_eq, beq_eq_false_iff_ne, ne_eq, Int.not_lt, Int.not_le, Decidable.not_not] at hg55); simp at hg55
    · try simp only [decide_eq_true_eq, decide_eq_false_iff_not, Bool.not_eq_true', Bool.not_eq_false', Bool.not_eq_eq_eq_not, Bool.not_true, Bool.not_false, Bool.and_eq_true, Bool.or_eq_true, Bool.or_eq_false_iff, beq_iff_eq, beq_eq_false_iff_ne, ne_eq, Int.not_lt, Int.not_le, Decidable.not_not] at hg24
      refine g_step_yes (j := 2) (t := 24) rfl rfl rfl rfl (s_val (v_move rfl) rfl rfl ?_)
      refine g_step_yes (j := 2) (t := 24) rfl rfl rfl rfl (s_val (v_gtr rfl rfl) rfl rfl ?_)
      refine g_step rfl (s_val (v_pick_f rfl rfl) rfl rfl ?_)
      refine g_step rfl (s_val (v_move rfl) rfl rfl ?_)
      refine g_split 28 rfl (fun hg28 => ?_) (fun hg28 => ?_)
      · try simp only [decide_eq_true_eq, decide_eq_false_iff_not, Bool.not_eq_true', Bool.not_eq_false', Bool.not_eq_eq_eq_not, Bool.not_true, Bool.not_false, Bool.and_eq_true, Bool.or_eq_true, Bool.or_eq_false_iff, beq_iff_eq, beq_eq_false_iff_ne, ne_eq, Int.not_lt, Int.not_le, Decidable.not_not] at hg28
        skip
        refine g_step_yes (j := 6) (t := 28) rfl rfl rfl rfl (s_val (v_move rfl) rfl rfl ?_)
        refine g_step_yes (j := 6) (t := 28) rfl rfl rfl rfl (s_val (v_sne rfl rfl) rfl rfl ?_)
        refine g_step rfl (s_val (v_pick_t rfl rfl) rfl rfl ?_)
        refine g_nil ?_
        refine g_next hK7 ?_
        refine g_keep [1, 6, 7, 31] [] [] rfl rfl rfl rfl ?_
        refine g_cond rfl (fun hc31 => ?_) (fun hc31 => ?_)
        · exfalso; (try simp only [decide_eq_true_eq, decide_eq_false_iff_not, Bool.not_eq_true', Bool.not_eq_false', Bool.not_eq_eq_eq_not, Bool.not_true, Bool.not_false, Bool.and_eq_true, Bool.or_eq_true, Bool.or_eq_false_iff, beq_iff_eq, beq_eq_false_iff_ne, ne_eq, Int.not_lt, Int.not_le, Decidable.not_not] at hc31); first | (have h1 : stName n = ⟨#[]⟩ := if_pos (by omega); simp [h1] at hc31; done) | (simp_all; omega) | simp_all
        · try simp only [decide_eq_true_eq, decide_eq_false_iff_not, Bool.not_eq_true', Bool.not_eq_false', Bool.not_eq_eq_eq_not, Bool.not_true, Bool.not_false, Bool.and_eq_true, Bool.or_eq_true, Bool.or_eq_false_iff, beq_iff_eq, beq_eq_false_iff_ne, ne_eq, Int.not_lt, Int.not_le, Decidable.not_not] at hc31
          refine g_skip ?_
          refine g_next hK6 ?_
          refine g_seq (fun K19 hK19 => ?_)
          refine g_region ?_
          refine g_step rfl (s_lit ty26 ty9 rfl rfl rfl rfl rfl rfl rfl ?_)
          refine g_step rfl (s_val (v_assign rfl) rfl rfl ?_)
          refine g_nil ?_
          refine g_next hK19 ?_
          refine g_seq (fun K20 hK20 => ?_)
          refine g_region ?_
          refine g_step rfl (s_val (v_assign rfl) rfl rfl ?_)
          refine g_nil ?_
          refine g_next hK20 ?_
          refine g_seq (fun K21 hK21 => ?_)
          refine g_seq (fun K22 hK22 => ?_)
          refine g_region ?_
          refine g_step rfl (s_val (v_assign rfl) rfl rfl ?_)
          refine g_nil ?_
          refine g_next hK22 ?_
          refine g_block ?_
          refine g_keep [1, 6, 7, 8, 9, 10] [] [] rfl rfl rfl rfl ?_
          refine g_loop (fun n env L B G => ∃ (k : Nat) (u : Int), k ≤ 4 ∧ n = 4 - k ∧ env = [(1, .str s), (6, .int .i64 (if stOf s < 0 then 0 else stOf s)), (7, .bool (decide (0 ≤ stOf s))), (8, .imm (stNames.map .str)), (9, .int .i64 u), (10, .int .i64 (k : Int))] ∧ L = [] ∧ B = [] ∧ H = G ∧ lastI (stNames.drop k) (k : Int) s u = stOf s) (4) ⟨0, (-1), Nat.zero_le _, rfl, rfl, rfl, rfl, rfl, lastI_eq s⟩ (fun n env L B G hI => ?_)
          obtain ⟨k, u, hk, rfl, rfl, rfl, rfl, rfl, hc⟩ := hI
          refine g_seq (fun K23 hK23 => ?_)
          refine g_seq (fun K24 hK24 => ?_)
          refine g_region ?_
          refine g_step rfl (s_val (v_move rfl) rfl rfl ?_)
          refine g_step rfl (s_val (v_lss rfl rfl) rfl rfl ?_)
          refine g_nil ?_
          refine g_next hK24 ?_
          refine g_cond rfl (fun hc34 => ?_) (fun hc34 => ?_)
          · try simp only [decide_eq_true_eq, decide_eq_false_iff_not, Bool.not_eq_true', Bool.not_eq_false', Bool.not_eq_eq_eq_not, Bool.not_true, Bool.not_false, Bool.and_eq_true, Bool.or_eq_true, Bool.or_eq_false_iff, beq_iff_eq, beq_eq_false_iff_ne, ne_eq, Int.not_lt, Int.not_le, Decidable.not_not] at hc34
            obtain ⟨x, hx⟩ := get_some (l := stNames) (k := k) (by show k < 4; omega)
            have hnx : stName (k : Int) = x := by have := stName_get (n := (k : Int)) (by omega) (by omega); rw [show ((k : Int)).toNat = k by omega, hx] at this; exact (Option.some.inj this).symm
            refine g_skip ?_
            refine g_next hK23 ?_
            refine g_seq (fun K25 hK25 => ?_)
            refine g_block ?_
            refine g_seq (fun K26 hK26 => ?_)
            refine g_seq (fun K27 hK27 => ?_)
            refine g_draw (n := 7) (fun j => !([] : List Nat).contains j) rfl rfl ?_
            refine m_take 0 false rfl rfl (by kernel_rfl) (by kernel_rfl) (by kernel_rfl) (fun _ _ _ _ h => h) (v_move rfl) rfl rfl ?_
            refine m_take 2 false rfl rfl (by kernel_rfl) (by kernel_rfl) (by kernel_rfl) (fun _ _ _ _ h => h) (v_move rfl) rfl rfl ?_
            refine m_take 3 false rfl rfl (by kernel_rfl) (by kernel_rfl) (by kernel_rfl) (fun _ _ _ _ h => h) (v_move rfl) rfl rfl ?_
            refine m_take 4 false rfl rfl (by kernel_rfl) (by kernel_rfl) (by kernel_rfl) (fun _ _ _ _ h => h) (v_indexAddr ty26 ty9 rfl rfl (by first | rfl | assumption) (by first | rfl | exact (rfl : (0 : Int) = ((0 : Nat) : Int)) | exact (Int.toNat_of_nonneg (by omega)).symm) (by first | assumption | exact map_get (by assumption) | rfl) rfl) rfl rfl ?_
            refine m_take 5 true rfl rfl (by kernel_rfl) (by kernel_rfl) (by kernel_rfl) (fun _ _ _ _ h => h) (by first | exact v_load ty9 rfl rfl (by first | rfl | assumption) (by first | assumption | exact map_get (by assumption) | rfl) rfl | exact v_load_box ty9 rfl rfl (by assumption) rfl) rfl rfl ?_
            refine m_one 1 (by kernel_rfl) rfl rfl ?_
            refine sm_callp rfl rfl rfl (name_ok (k : Int) _) ?_
            rintro _ rfl
            refine m_take 6 false rfl rfl (by kernel_rfl) (by kernel_rfl) (by kernel_rfl) (fun _ _ _ _ h => h) (v_sne rfl rfl) rfl rfl ?_
            refine m_done (by kernel_rfl) ?_
            refine g_next hK27 ?_
            refine g_cond rfl (fun hc43 => ?_) (fun hc43 => ?_)
            · exfalso; (try simp only [decide_eq_true_eq, decide_eq_false_iff_not, Bool.not_eq_true', Bool.not_eq_false', Bool.not_eq_eq_eq_not, Bool.not_true, Bool.not_false, Bool.and_eq_true, Bool.or_eq_true, Bool.or_eq_false_iff, beq_iff_eq, beq_eq_false_iff_ne, ne_eq, Int.not_lt, Int.not_le, Decidable.not_not] at hc43); simp [hnx] at hc43
            · try simp only [decide_eq_true_eq, decide_eq_false_iff_not, Bool.not_eq_true', Bool.not_eq_false', Bool.not_eq_eq_eq_not, Bool.not_true, Bool.not_false, Bool.and_eq_true, Bool.or_eq_true, Bool.or_eq_false_iff, beq_iff_eq, beq_eq_false_iff_ne, ne_eq, Int.not_lt, Int.not_le, Decidable.not_not] at hc43
              refine g_skip ?_
              refine g_next hK26 ?_
              refine g_seq (fun K28 hK28 => ?_)
              refine g_region ?_
              refine g_step rfl (s_val (v_move rfl) rfl rfl ?_)
              refine g_step rfl (s_val (v_move rfl) rfl rfl ?_)
              refine g_step rfl (s_val (v_indexAddr ty26 ty9 rfl rfl (by first | rfl | assumption) (by first | rfl | exact (rfl : (0 : Int) = ((0 : Nat) : Int)) | exact (Int.toNat_of_nonneg (by omega)).symm) (by first | assumption | exact map_get (by assumption) | rfl) rfl) rfl rfl ?_)
              refine g_step rfl (s_val (by first | exact v_load ty9 rfl rfl (by first | rfl | assumption) (by first | assumption | exact map_get (by assumption) | rfl) rfl | exact v_load_box ty9 rfl rfl (by assumption) rfl) rfl rfl ?_)
              refine g_step rfl (s_val (v_move rfl) rfl rfl ?_)
              refine g_step rfl (s_val (v_seq rfl rfl) rfl rfl ?_)
              refine g_nil ?_
              refine g_next hK28 ?_
              refine g_cond rfl (fun hc49 => ?_) (fun hc49 => ?_)
              · try simp only [decide_eq_true_eq, decide_eq_false_iff_not, Bool.not_eq_true', Bool.not_eq_false', Bool.not_eq_eq_eq_not, Bool.not_true, Bool.not_false, Bool.and_eq_true, Bool.or_eq_true, Bool.or_eq_false_iff, beq_iff_eq, beq_eq_false_iff_ne, ne_eq, Int.not_lt, Int.not_le, Decidable.not_not] at hc49
                refine g_region ?_
                refine g_step rfl (s_val (v_move rfl) rfl rfl ?_)
                refine g_step rfl (s_val (v_assign rfl) rfl rfl ?_)
                refine g_nil ?_
                refine g_block_normal ?_
                refine g_next hK25 ?_
                refine g_region ?_
                refine g_step rfl (s_val (v_move rfl) rfl rfl ?_)
                refine g_step rfl (s_val (v_add rfl rfl (by omega)) rfl rfl ?_)
                refine g_step rfl (s_val (v_assign rfl) rfl rfl ?_)
                refine g_nil ?_
                refine g_keep [1, 6, 7, 8, 9, 10] [] [] rfl rfl rfl rfl ?_
                exact g_round _ (by omega) ⟨k + 1, _, by omega, rfl, rfl, rfl, rfl, rfl, by rw [drop_cons hx, lastI] at hc; first | (rw [if_pos hc49] at hc; exact hc) | (rw [if_neg hc49] at hc; exact hc)⟩
              · try simp only [decide_eq_true_eq, decide_eq_false_iff_not, Bool.not_eq_true', Bool.not_eq_false', Bool.not_eq_eq_eq_not, Bool.not_true, Bool.not_false, Bool.and_eq_true, Bool.or_eq_true, Bool.or_eq_false_iff, beq_iff_eq, beq_eq_false_iff_ne, ne_eq, Int.not_lt, Int.not_le, Decidable.not_not] at hc49
                refine g_skip ?_
                refine g_block_normal ?_
                refine g_next hK25 ?_
                refine g_region ?_
                refine g_step rfl (s_val (v_move rfl) rfl rfl ?_)
                refine g_step rfl (s_val (v_add rfl rfl (by omega)) rfl rfl ?_)
                refine g_step rfl (s_val (v_assign rfl) rfl rfl ?_)
                refine g_nil ?_
                refine g_keep [1, 6, 7, 8, 9, 10] [] [] rfl rfl rfl rfl ?_
                exact g_round _ (by omega) ⟨k + 1, _, by omega, rfl, rfl, rfl, rfl, rfl, by rw [drop_cons hx, lastI] at hc; first | (rw [if_pos hc49] at hc; exact hc) | (rw [if_neg hc49] at hc; exact hc)⟩
          · try simp only [decide_eq_true_eq, decide_eq_false_iff_not, Bool.not_eq_true', Bool.not_eq_false', Bool.not_eq_eq_eq_not, Bool.not_true, Bool.not_false, Bool.and_eq_true, Bool.or_eq_true, Bool.or_eq_false_iff, beq_iff_eq, beq_eq_false_iff_ne, ne_eq, Int.not_lt, Int.not_le, Decidable.not_not] at hc34
            obtain rfl : k = 4 := by omega
            obtain rfl : u = stOf s := hc
            refine g_exit ?_
            refine g_then_exit ?_
            refine g_then_exit ?_
            refine g_block_same ?_
            refine g_next hK21 ?_
            refine g_seq (fun K29 hK29 => ?_)
            refine g_region ?_
            refine g_step rfl (s_val (v_move rfl) rfl rfl ?_)
            refine g_step rfl (s_val (v_move rfl) rfl rfl ?_)
            refine g_step rfl (s_val (v_geq rfl rfl) rfl rfl ?_)
            refine g_step rfl (s_val (v_bool_eql ty4 rfl rfl) rfl rfl ?_)
            refine g_step rfl (s_val (v_move rfl) rfl rfl ?_)
            refine g_split 55 rfl (fun hg55 => ?_) (fun hg55 => ?_)
            · try simp only [decide_eq_true_eq, decide_eq_false_iff_not, Bool.not_eq_true', Bool.not_eq_false', Bool.not_eq_eq_eq_not, Bool.not_true, Bool.not_false, Bool.and_eq_true, Bool.or_eq_true, Bool.or_eq_false_iff, beq_iff_eq, beq_eq_false_iff_ne, ne_eq, Int.not_lt, Int.not_le, Decidable.not_not] at hg55
              refine g_step_yes (j := 4) (t := 55) rfl rfl rfl rfl (s_val (v_move rfl) rfl rfl ?_)
              refine g_step_yes (j := 4) (t := 55) rfl rfl rfl rfl (s_val (v_not rfl) rfl rfl ?_)
              refine g_step_yes (j := 4) (t := 55) rfl rfl rfl rfl (s_val (v_move rfl) rfl rfl ?_)
              refine g_split 58 rfl (fun hg58 => ?_) (fun hg58 => ?_)
              · try simp only [decide_eq_true_eq, decide_eq_false_iff_not, Bool.not_eq_true', Bool.not_eq_false', Bool.not_eq_eq_eq_not, Bool.not_true, Bool.not_false, Bool.and_eq_true, Bool.or_eq_true, Bool.or_eq_false_iff, beq_iff_eq, beq_eq_false_iff_ne, ne_eq, Int.not_lt, Int.not_le, Decidable.not_not] at hg58
                refine g_step_no (j := 7) (t := 58) rfl rfl rfl rfl rfl rfl rfl ?_
                refine g_step_no (j := 7) (t := 58) rfl rfl rfl rfl rfl rfl rfl ?_
                refine g_step_no (j := 7) (t := 58) rfl rfl rfl rfl rfl rfl rfl ?_
                refine g_step_yes (j := 4) (t := 55) rfl rfl rfl rfl (s_val (v_pick_t rfl rfl) rfl rfl ?_)
                refine g_step rfl (s_val (v_pick_t rfl rfl) rfl rfl ?_)
                refine g_step rfl (s_val (v_move rfl) rfl rfl ?_)
                refine g_step_yes (j := 13) (t := 64) rfl rfl rfl rfl (s_val (v_move rfl) rfl rfl ?_)
                refine g_step_yes (j := 13) (t := 64) rfl rfl rfl rfl (s_val (v_move rfl) rfl rfl ?_)
                refine g_split 66 rfl (fun hg66 => ?_) (fun hg66 => ?_)
                · try simp only [decide_eq_true_eq, decide_eq_false_iff_not, Bool.not_eq_true', Bool.not_eq_false', Bool.not_eq_eq_eq_not, Bool.not_true, Bool.not_false, Bool.and_eq_true, Bool.or_eq_true, Bool.or_eq_false_iff, beq_iff_eq, beq_eq_false_iff_ne, ne_eq, Int.not_lt, Int.not_le, Decidable.not_not] at hg66
                  refine g_step_no (j := 15) (t := 66) rfl rfl rfl rfl rfl rfl rfl ?_
                  refine g_step_no (j := 15) (t := 66) rfl rfl rfl rfl rfl rfl rfl ?_
                  refine g_step_yes (j := 13) (t := 64) rfl rfl rfl rfl (s_val (v_pick_t rfl rfl) rfl rfl ?_)
                  refine g_step rfl (s_val (v_pick_t rfl rfl) rfl rfl ?_)
                  refine g_step rfl (s_val (v_move rfl) rfl rfl ?_)
                  refine g_step_yes (j := 20) (t := 71) rfl rfl rfl rfl (s_callp rfl rfl rfl (awake08_ok _) ?_)
                  rintro _ rfl
                  refine g_step rfl (s_val (v_pick_t rfl rfl) rfl rfl ?_)
                  refine g_step rfl (s_val (v_assign rfl) rfl rfl ?_)
                  refine g_nil ?_
                  refine g_next hK29 ?_
                  refine g_keep [4] [] [] rfl rfl rfl rfl ?_
                  refine g_ret ?_
                  refine g_end1 (.inl rfl) Try.results3 (.tmp rfl) [] (ASub.refl _) (AHeap.sub_refl _) (fun p hp => by cases hp) ⟨rfl, ?_⟩
                  rfl
                · try simp only [decide_eq_true_eq, decide_eq_false_iff_not, Bool.not_eq_true', Bool.not_eq_false', Bool.not_eq_eq_eq_not, Bool.not_true, Bool.not_false, Bool.and_eq_true, Bool.or_eq_true, Bool.or_eq_false_iff, beq_iff_eq, beq_eq_false_iff_ne, ne_eq, Int.not_lt, Int.not_le, Decidable.not_not] at hg66
                  refine g_step_yes (j := 15) (t := 66) rfl rfl rfl rfl (s_val (v_move rfl) rfl rfl ?_)
                  refine g_step_yes (j := 15) (t := 66) rfl rfl rfl rfl (s_val (v_eql rfl rfl) rfl rfl ?_)
                  refine g_step_yes (j := 13) (t := 64) rfl rfl rfl rfl (s_val (v_pick_f rfl rfl) rfl rfl ?_)
                  refine g_step rfl (s_val (v_pick_t rfl rfl) rfl rfl ?_)
                  refine g_step rfl (s_val (v_move rfl) rfl rfl ?_)
                  refine g_split 71 rfl (fun hg71 => ?_) (fun hg71 => ?_)
                  · try simp only [decide_eq_true_eq, decide_eq_false_iff_not, Bool.not_eq_true', Bool.not_eq_false', Bool.not_eq_eq_eq_not, Bool.not_true, Bool.not_false, Bool.and_eq_true, Bool.or_eq_true, Bool.or_eq_false_iff, beq_iff_eq, beq_eq_false_iff_ne, ne_eq, Int.not_lt, Int.not_le, Decidable.not_not] at hg71
                    refine g_step_yes (j := 20) (t := 71) rfl rfl rfl rfl (s_callp rfl rfl rfl (awake08_ok _) ?_)
                    rintro _ rfl
                    refine g_step rfl (s_val (v_pick_t rfl rfl) rfl rfl ?_)
                    refine g_step rfl (s_val (v_assign rfl) rfl rfl ?_)
                    refine g_nil ?_
                    refine g_next hK29 ?_
                    refine g_keep [4] [] [] rfl rfl rfl rfl ?_
                    refine g_ret ?_
                    refine g_end1 (.inl rfl) Try.results3 (.tmp rfl) [] (ASub.refl _) (AHeap.sub_refl _) (fun p hp => by cases hp) ⟨rfl, ?_⟩
                    rfl
                  · exfalso; (try simp only [decide_eq_true_eq, decide_eq_false_iff_not, Bool.not_eq_true', Bool.not_eq_false', Bool.not_eq_eq_eq_not, Bool.not_true, Bool.not_false, Bool.and_eq_true, Bool.or_eq_true, Bool.or_eq_false_iff, beq_iff_eq, beq_eq_false_iff_ne, ne_eq, Int.not_lt, Int.not_le, Decidable.not_not] at hg71); first | (rw [if_pos (by omega)] at hg71; omega) | simp_all
              · try simp only [decide_eq_true_eq, decide_eq_false_iff_not, Bool.not_eq_true', Bool.not_eq_false', Bool.not_eq_eq_eq_not, Bool.not_true, Bool.not_false, Bool.and_eq_true, Bool.or_eq_true, Bool.or_eq_false_iff, beq_iff_eq, beq_eq_false_iff_ne, ne_eq, Int.not_lt, Int.not_le, Decidable.not_not] at hg58
                refine g_step_yes (j := 7) (t := 58) rfl rfl rfl rfl (s_val (v_move rfl) rfl rfl ?_)
                refine g_step_yes (j := 7) (t := 58) rfl rfl rfl rfl (s_val (v_move rfl) rfl rfl ?_)
                refine g_step_yes (j := 7) (t := 58) rfl rfl rfl rfl (s_val (v_eql rfl rfl) rfl rfl ?_)
                refine g_step_yes (j := 4) (t := 55) rfl rfl rfl rfl (s_val (v_pick_f rfl rfl) rfl rfl ?_)
                refine g_step rfl (s_val (v_pick_t rfl rfl) rfl rfl ?_)
                refine g_step rfl (s_val (v_move rfl) rfl rfl ?_)
                refine g_split 64 rfl (fun hg64 => ?_) (fun hg64 => ?_)
                · try simp only [decide_eq_true_eq, decide_eq_false_iff_not, Bool.not_eq_true', Bool.not_eq_false', Bool.not_eq_eq_eq_not, Bool.not_true, Bool.not_false, Bool.and_eq_true, Bool.or_eq_true, Bool.or_eq_false_iff, beq_iff_eq, beq_eq_false_iff_ne, ne_eq, Int.not_lt, Int.not_le, Decidable.not_not] at hg64
                  refine g_step_yes (j := 13) (t := 64) rfl rfl rfl rfl (s_val (v_move rfl) rfl rfl ?_)
                  refine g_step_yes (j := 13) (t := 64) rfl rfl rfl rfl (s_val (v_move rfl) rfl rfl ?_)
                  refine g_split 66 rfl (fun hg66 => ?_) (fun hg66 => ?_)
                  · try simp only [decide_eq_true_eq, decide_eq_false_iff_not, Bool.not_eq_true', Bool.not_eq_false', Bool.not_eq_eq_eq_not, Bool.not_true, Bool.not_false, Bool.and_eq_true, Bool.or_eq_true, Bool.or_eq_false_iff, beq_iff_eq, beq_eq_false_iff_ne, ne_eq, Int.not_lt, Int.not_le, Decidable.not_not] at hg66
                    refine g_step_no (j := 15) (t := 66) rfl rfl rfl rfl rfl rfl rfl ?_
                    refine g_step_no (j := 15) (t := 66) rfl rfl rfl rfl rfl rfl rfl ?_
                    refine g_step_yes (j := 13) (t := 64) rfl rfl rfl rfl (s_val (v_pick_t rfl rfl) rfl rfl ?_)
                    refine g_step rfl (s_val (v_pick_t rfl rfl) rfl rfl ?_)
                    refine g_step rfl (s_val (v_move rfl) rfl rfl ?_)
                    refine g_step_yes (j := 20) (t := 71) rfl rfl rfl rfl (s_callp rfl rfl rfl (awake08_ok _) ?_)
                    rintro _ rfl
                    refine g_step rfl (s_val (v_pick_t rfl rfl) rfl rfl ?_)
                    refine g_step rfl (s_val (v_assign rfl) rfl rfl ?_)
                    refine g_nil ?_
                    refine g_next hK29 ?_
                    refine g_keep [4] [] [] rfl rfl rfl rfl ?_
                    refine g_ret ?_
                    refine g_end1 (.inl rfl) Try.results3 (.tmp rfl) [] (ASub.refl _) (AHeap.sub_refl _) (fun p hp => by cases hp) ⟨rfl, ?_⟩
                    rfl
                  · try simp only [decide_eq_true_eq, decide_eq_false_iff_not, Bool.not_eq_true', Bool.not_eq_false', Bool.not_eq_eq_eq_not, Bool.not_true, Bool.not_false, Bool.and_eq_true, Bool.or_eq_true, Bool.or_eq_false_iff, beq_iff_eq, beq_eq_false_iff_ne, ne_eq, Int.not_lt, Int.not_le, Decidable.not_not] at hg66
                    refine g_step_yes (j := 15) (t := 66) rfl rfl rfl rfl (s_val (v_move rfl) rfl rfl ?_)
                    refine g_step_yes (j := 15) (t := 66) rfl rfl rfl rfl (s_val (v_eql rfl rfl) rfl rfl ?_)
                    refine g_step_yes (j := 13) (t := 64) rfl rfl rfl rfl (s_val (v_pick_f rfl rfl) rfl rfl ?_)
                    refine g_step rfl (s_val (v_pick_t rfl rfl) rfl rfl ?_)
                    refine g_step rfl (s_val (v_move rfl) rfl rfl ?_)
                    refine g_split 71 rfl (fun hg71 => ?_) (fun hg71 => ?_)
                    · try simp only [decide_eq_true_eq, decide_eq_false_iff_not, Bool.not_eq_true', Bool.not_eq_false', Bool.not_eq_eq_eq_not, Bool.not_true, Bool.not_false, Bool.and_eq_true, Bool.or_eq_true, Bool.or_eq_false_iff, beq_iff_eq, beq_eq_false_iff_ne, ne_eq, Int.not_lt, Int.not_le, Decidable.not_not] at hg71
                      refine g_step_yes (j := 20) (t := 71) rfl rfl rfl rfl (s_callp rfl rfl rfl (awake08_ok _) ?_)
                      rintro _ rfl
                      refine g_step rfl (s_val (v_pick_t rfl rfl) rfl rfl ?_)
                      refine g_step rfl (s_val (v_assign rfl) rfl rfl ?_)
                      refine g_nil ?_
                      refine g_next hK29 ?_
                      refine g_keep [4] [] [] rfl rfl rfl rfl ?_
                      refine g_ret ?_
                      refine g_end1 (.inl rfl) Try.results3 (.tmp rfl) [] (ASub.refl _) (AHeap.sub_refl _) (fun p hp => by cases hp) ⟨rfl, ?_⟩
                      rfl
                    · exfalso; (try simp only [decide_eq_true_eq, decide_eq_false_iff_not, Bool.not_eq_true', Bool.not_eq_false', Bool.not_eq_eq_eq_not, Bool.not_true, Bool.not_false, Bool.and_eq_true, Bool.or_eq_true, Bool.or_eq_false_iff, beq_iff_eq, beq_eq_false_iff_ne, ne_eq, Int.not_lt, Int.not_le, Decidable.not_not] at hg71); first | (rw [if_pos (by omega)] at hg71; omega) | simp_all
                · exfalso; (try simp only [decide_eq_true_eq, decide_eq_false_iff_not, Bool.not_eq_true', Bool.not_eq_false', Bool.not_eq_eq_eq_not, Bool.not_true, Bool.not_false, Bool.and_eq_true, Bool.or_eq_true, Bool.or_eq_false_iff, beq_iff_eq, beq_eq_false_iff_ne, ne_eq, Int.not_lt, Int.not_le, Decidable.not_not] at hg64); first | (simp_all; done) | (simp_all; omega)
            · exfalso; (try simp only [decide_eq_true_eq, decide_eq_false_iff_not, Bool.not_eq_true', Bool.not_eq_false', Bool.not_eq_eq_eq_not, Bool.not_true, Bool.not_false, Bool.and_eq_true, Bool.or_eq_true, Bool.or_eq_false_iff, beq_iff_eq, beq_eq_false_iff_ne, ne_eq, Int.not_lt, Int.not_le, Decidable.not_not] at hg55); simp at hg55
      · try simp only [decide_eq_true_eq, decide_eq_false_iff_not, Bool.not_eq_true', Bool.not_eq_false', Bool.not_eq_eq_eq_not, Bool.not_true, Bool.not_false, Bool.and_eq_true, Bool.or_eq_true, Bool.or_eq_false_iff, beq_iff_eq, beq_eq_false_iff_ne, ne_eq, Int.not_lt, Int.not_le, Decidable.not_not] at hg28
        refine g_step_no (j := 6) (t := 28) rfl rfl rfl rfl rfl rfl rfl ?_
        refine g_step_no (j := 6) (t := 28) rfl rfl rfl rfl rfl rfl rfl ?_
        refine g_step rfl (s_val (v_pick_f rfl rfl) rfl rfl ?_)
        refine g_nil ?_
        refine g_next hK7 ?_
        refine g_keep [1, 6, 7, 31] [] [] rfl rfl rfl rfl ?_
        refine g_cond rfl (fun h => by cases h) (fun _ => ?_)
        refine g_skip ?_
        refine g_next hK6 ?_
        refine g_seq (fun K30 hK30 => ?_)
        refine g_region ?_
        refine g_step rfl (s_lit ty26 ty9 rfl rfl rfl rfl rfl rfl rfl ?_)
        refine g_step rfl (s_val (v_assign rfl) rfl rfl ?_)
        refine g_nil ?_
        refine g_next hK30 ?_
        refine g_seq (fun K31 hK31 => ?_)
        refine g_region ?_
        refine g_step rfl (s_val (v_assign rfl) rfl rfl ?_)
        refine g_nil ?_
        refine g_next hK31 ?_
        refine g_seq (fun K32 hK32 => ?_)
        refine g_seq (fun K33 hK33 => ?_)
        refine g_region ?_
        refine g_step rfl (s_val (v_assign rfl) rfl rfl ?_)
        refine g_nil ?_
        refine g_next hK33 ?_
        refine g_block ?_
        refine g_keep [1, 6, 7, 8, 9, 10] [] [] rfl rfl rfl rfl ?_
        refine g_loop (fun n env L B G => ∃ (k : Nat) (u : Int), k ≤ 4 ∧ n = 4 - k ∧ env = [(1, .str s), (6, .int .i64 (if stOf s < 0 then 0 else stOf s)), (7, .bool (decide (0 ≤ stOf s))), (8, .imm (stNames.map .str)), (9, .int .i64 u), (10, .int .i64 (k : Int))] ∧ L = [] ∧ B = [] ∧ H = G ∧ lastI (stNames.drop k) (k : Int) s u = stOf s) (4) ⟨0, (-1), Nat.zero_le _, rfl, rfl, rfl, rfl, rfl, lastI_eq s⟩ (fun n env L B G hI => ?_)
        obtain ⟨k, u, hk, rfl, rfl, rfl, rfl, rfl, hc⟩ := hI
        refine g_seq (fun K34 hK34 => ?_)
        refine g_seq (fun K35 hK35 => ?_)
        refine g_region ?_
        refine g_step rfl (s_val (v_move rfl) rfl rfl ?_)
        refine g_step rfl (s_val (v_lss rfl rfl) rfl rfl ?_)
        refine g_nil ?_
        refine g_next hK35 ?_
        refine g_cond rfl (fun hc34 => ?_) (fun hc34 => ?_)
        · try simp only [decide_eq_true_eq, decide_eq_false_iff_not, Bool.not_eq_true', Bool.not_eq_false', Bool.not_eq_eq_eq_not, Bool.not_true, Bool.not_false, Bool.and_eq_true, Bool.or_eq_true, Bool.or_eq_false_iff, beq_iff_eq, beq_eq_false_iff_ne, ne_eq, Int.not_lt, Int.not_le, Decidable.not_not] at hc34
          obtain ⟨x, hx⟩ := get_some (l := stNames) (k := k) (by show k < 4; omega)
          have hnx : stName (k : Int) = x := by have := stName_get (n := (k : Int)) (by omega) (by omega); rw [show ((k : Int)).toNat = k by omega, hx] at this; exact (Option.some.inj this).symm
          refine g_skip ?_
          refine g_next hK34 ?_
          refine g_seq (fun K36 hK36 => ?_)
          refine g_block ?_
          refine g_seq (fun K37 hK37 => ?_)
          refine g_seq (fun K38 hK38 => ?_)
          refine g_draw (n := 7) (fun j => !([] : List Nat).contains j) rfl rfl ?_
          refine m_take 0 false rfl rfl (by kernel_rfl) (by kernel_rfl) (by kernel_rfl) (fun _ _ _ _ h => h) (v_move rfl) rfl rfl ?_
          refine m_take 2 false rfl rfl (by kernel_rfl) (by kernel_rfl) (by kernel_rfl) (fun _ _ _ _ h => h) (v_move rfl) rfl rfl ?_
          refine m_take 3 false rfl rfl (by kernel_rfl) (by kernel_rfl) (by kernel_rfl) (fun _ _ _ _ h => h) (v_move rfl) rfl rfl ?_
          refine m_take 4 false rfl rfl (by kernel_rfl) (by kernel_rfl) (by kernel_rfl) (fun _ _ _ _ h => h) (v_indexAddr ty26 ty9 rfl rfl (by first | rfl | assumption) (by first | rfl | exact (rfl : (0 : Int) = ((0 : Nat) : Int)) | exact (Int.toNat_of_nonneg (by omega)).symm) (by first | assumption | exact map_get (by assumption) | rfl) rfl) rfl rfl ?_
          refine m_take 5 true rfl rfl (by kernel_rfl) (by kernel_rfl) (by kernel_rfl) (fun _ _ _ _ h => h) (by first | exact v_load ty9 rfl rfl (by first | rfl | assumption) (by first | assumption | exact map_get (by assumption) | rfl) rfl | exact v_load_box ty9 rfl rfl (by assumption) rfl) rfl rfl ?_
          refine m_one 1 (by kernel_rfl) rfl rfl ?_
          refine sm_callp rfl rfl rfl (name_ok (k : Int) _) ?_
          rintro _ rfl
          refine m_take 6 false rfl rfl (by kernel_rfl) (by kernel_rfl) (by kernel_rfl) (fun _ _ _ _ h => h) (v_sne rfl rfl) rfl rfl ?_
          refine m_done (by kernel_rfl) ?_
          refine g_next hK38 ?_
          refine g_cond rfl (fun hc43 => ?_) (fun hc43 => ?_)
          · exfalso; (try simp only [decide_eq_true_eq, decide_eq_false_iff_not, Bool.not_eq_true', Bool.not_eq_false', Bool.not_eq_eq_eq_not, Bool.not_true, Bool.not_false, Bool.and_eq_true, Bool.or_eq_true, Bool.or_eq_false_iff, beq_iff_eq, beq_eq_false_iff_ne, ne_eq, Int.not_lt, Int.not_le, Decidable.not_not] at hc43); simp [hnx] at hc43
          · try simp only [decide_eq_true_eq, decide_eq_false_iff_not, Bool.not_eq_true', Bool.not_eq_false', Bool.not_eq_eq_eq_not, Bool.not_true, Bool.not_false, Bool.and_eq_true, Bool.or_eq_true, Bool.or_eq_false_iff, beq_iff_eq, beq_eq_false_iff_ne, ne_eq, Int.not_lt, Int.not_le, Decidable.not_not] at hc43
            refine g_skip ?_
            refine g_next hK37 ?_
            refine g_seq (fun K39 hK39 => ?_)
            refine g_region ?_
            refine g_step rfl (s_val (v_move rfl) rfl rfl ?_)
            refine g_step rfl (s_val (v_move rfl) rfl rfl ?_)
            refine g_step rfl (s_val (v_indexAddr ty26 ty9 rfl rfl (by first | rfl | assumption) (by first | rfl | exact (rfl : (0 : Int) = ((0 : Nat) : Int)) | exact (Int.toNat_of_nonneg (by omega)).symm) (by first | assumption | exact map_get (by assumption) | rfl) rfl) rfl rfl ?_)
            refine g_step rfl (s_val (by first | exact v_load ty9 rfl rfl (by first | rfl | assumption) (by first | assumption | exact map_get (by assumption) | rfl) rfl | exact v_load_box ty9 rfl rfl (by assumption) rfl) rfl rfl ?_)
            refine g_step rfl (s_val (v_move rfl) rfl rfl ?_)
            refine g_step rfl (s_val (v_seq rfl rfl) rfl rfl ?_)
            refine g_nil ?_
            refine g_next hK39 ?_
            refine g_cond rfl (fun hc49 => ?_) (fun hc49 => ?_)
            · try simp only [decide_eq_true_eq, decide_eq_false_iff_not, Bool.not_eq_true', Bool.not_eq_false', Bool.not_eq_eq_eq_not, Bool.not_true, Bool.not_false, Bool.and_eq_true, Bool.or_eq_true, Bool.or_eq_false_iff, beq_iff_eq, beq_eq_false_iff_ne, ne_eq, Int.not_lt, Int.not_le, Decidable.not_not] at hc49
              refine g_region ?_
              refine g_step rfl (s_val (v_move rfl) rfl rfl ?_)
              refine g_step rfl (s_val (v_assign rfl) rfl rfl ?_)
              refine g_nil ?_
              refine g_block_normal ?_
              refine g_next hK36 ?_
              refine g_region ?_
              refine g_step rfl (s_val (v_move rfl) rfl rfl ?_)
              refine g_step rfl (s_val (v_add rfl rfl (by omega)) rfl rfl ?_)
              refine g_step rfl (s_val (v_assign rfl) rfl rfl ?_)
              refine g_nil ?_
              refine g_keep [1, 6, 7, 8, 9, 10] [] [] rfl rfl rfl rfl ?_
              exact g_round _ (by omega) ⟨k + 1, _, by omega, rfl, rfl, rfl, rfl, rfl, by rw [drop_cons hx, lastI] at hc; first | (rw [if_pos hc49] at hc; exact hc) | (rw [if_neg hc49] at hc; exact hc)⟩
            · try simp only [decide_eq_true_eq, decide_eq_false_iff_not, Bool.not_eq_true', Bool.not_eq_false', Bool.not_eq_eq_eq_not, Bool.not_true, Bool.not_false, Bool.and_eq_true, Bool.or_eq_true, Bool.or_eq_false_iff, beq_iff_eq, beq_eq_false_iff_ne, ne_eq, Int.not_lt, Int.not_le, Decidable.not_not] at hc49
              refine g_skip ?_
              refine g_block_normal ?_
              refine g_next hK36 ?_
              refine g_region ?_
              refine g_step rfl (s_val (v_move rfl) rfl rfl ?_)
              refine g_step rfl (s_val (v_add rfl rfl (by omega)) rfl rfl ?_)
              refine g_step rfl (s_val (v_assign rfl) rfl rfl ?_)
              refine g_nil ?_
              refine g_keep [1, 6, 7, 8, 9, 10] [] [] rfl rfl rfl rfl ?_
              exact g_round _ (by omega) ⟨k + 1, _, by omega, rfl, rfl, rfl, rfl, rfl, by rw [drop_cons hx, lastI] at hc; first | (rw [if_pos hc49] at hc; exact hc) | (rw [if_neg hc49] at hc; exact hc)⟩
        · try simp only [decide_eq_true_eq, decide_eq_false_iff_not, Bool.not_eq_true', Bool.not_eq_false', Bool.not_eq_eq_eq_not, Bool.not_true, Bool.not_false, Bool.and_eq_true, Bool.or_eq_true, Bool.or_eq_false_iff, beq_iff_eq, beq_eq_false_iff_ne, ne_eq, Int.not_lt, Int.not_le, Decidable.not_not] at hc34
          obtain rfl : k = 4 := by omega
          obtain rfl : u = stOf s := hc
          refine g_exit ?_
          refine g_then_exit ?_
          refine g_then_exit ?_
          refine g_block_same ?_
          refine g_next hK32 ?_
          refine g_seq (fun K40 hK40 => ?_)
          refine g_region ?_
          refine g_step rfl (s_val (v_move rfl) rfl rfl ?_)
          refine g_step rfl (s_val (v_move rfl) rfl rfl ?_)
          refine g_step rfl (s_val (v_geq rfl rfl) rfl rfl ?_)
          refine g_step rfl (s_val (v_bool_eql ty4 rfl rfl) rfl rfl ?_)
          refine g_step rfl (s_val (v_move rfl) rfl rfl ?_)
          refine g_split 55 rfl (fun hg55 => ?_) (fun hg55 => ?_)
          · try simp only [decide_eq_true_eq, decide_eq_false_iff_not, Bool.not_eq_true', Bool.not_eq_false', Bool.not_eq_eq_eq_not, Bool.not_true, Bool.not_false, Bool.and_eq_true, Bool.or_eq_true, Bool.or_eq_false_iff, beq_iff_eq, beq_eq_false_iff_ne, ne_eq, Int.not_lt, Int.not_le, Decidable.not_not] at hg55
            refine g_step_yes (j := 4) (t := 55) rfl rfl rfl rfl (s_val (v_move rfl) rfl rfl ?_)
            refine g_step_yes (j := 4) (t := 55) rfl rfl rfl rfl (s_val (v_not rfl) rfl rfl ?_)
            refine g_step_yes (j := 4) (t := 55) rfl rfl rfl rfl (s_val (v_move rfl) rfl rfl ?_)
            refine g_split 58 rfl (fun hg58 => ?_) (fun hg58 => ?_)
            · try simp only [decide_eq_true_eq, decide_eq_false_iff_not, Bool.not_eq_true', Bool.not_eq_false', Bool.not_eq_eq_eq_not, Bool.not_true, Bool.not_false, Bool.and_eq_true, Bool.or_eq_true, Bool.or_eq_false_iff, beq_iff_eq, beq_eq_false_iff_ne, ne_eq, Int.not_lt, Int.not_le, Decidable.not_not] at hg58
              refine g_step_no (j := 7) (t := 58) rfl rfl rfl rfl rfl rfl rfl ?_
              refine g_step_no (j := 7) (t := 58) rfl rfl rfl rfl rfl rfl rfl ?_
              refine g_step_no (j := 7) (t := 58) rfl rfl rfl rfl rfl rfl rfl ?_
              refine g_step_yes (j := 4) (t := 55) rfl rfl rfl rfl (s_val (v_pick_t rfl rfl) rfl rfl ?_)
              refine g_step rfl (s_val (v_pick_t rfl rfl) rfl rfl ?_)
              refine g_step rfl (s_val (v_move rfl) rfl rfl ?_)
              refine g_step_yes (j := 13) (t := 64) rfl rfl rfl rfl (s_val (v_move rfl) rfl rfl ?_)
              refine g_step_yes (j := 13) (t := 64) rfl rfl rfl rfl (s_val (v_move rfl) rfl rfl ?_)
              refine g_split 66 rfl (fun hg66 => ?_) (fun hg66 => ?_)
              · try simp only [decide_eq_true_eq, decide_eq_false_iff_not, Bool.not_eq_true', Bool.not_eq_false', Bool.not_eq_eq_eq_not, Bool.not_true, Bool.not_false, Bool.and_eq_true, Bool.or_eq_true, Bool.or_eq_false_iff, beq_iff_eq, beq_eq_false_iff_ne, ne_eq, Int.not_lt, Int.not_le, Decidable.not_not] at hg66
                refine g_step_no (j := 15) (t := 66) rfl rfl rfl rfl rfl rfl rfl ?_
                refine g_step_no (j := 15) (t := 66) rfl rfl rfl rfl rfl rfl rfl ?_
                refine g_step_yes (j := 13) (t := 64) rfl rfl rfl rfl (s_val (v_pick_t rfl rfl) rfl rfl ?_)
                refine g_step rfl (s_val (v_pick_t rfl rfl) rfl rfl ?_)
                refine g_step rfl (s_val (v_move rfl) rfl rfl ?_)
                refine g_step_yes (j := 20) (t := 71) rfl rfl rfl rfl (s_callp rfl rfl rfl (awake08_ok _) ?_)
                rintro _ rfl
                refine g_step rfl (s_val (v_pick_t rfl rfl) rfl rfl ?_)
                refine g_step rfl (s_val (v_assign rfl) rfl rfl ?_)
                refine g_nil ?_
                refine g_next hK40 ?_
                refine g_keep [4] [] [] rfl rfl rfl rfl ?_
                refine g_ret ?_
                refine g_end1 (.inl rfl) Try.results3 (.tmp rfl) [] (ASub.refl _) (AHeap.sub_refl _) (fun p hp => by cases hp) ⟨rfl, ?_⟩
                rfl
              · try simp only [decide_eq_true_eq, decide_eq_false_iff_not, Bool.not_eq_true', Bool.not_eq_false', Bool.not_eq_eq_eq_not, Bool.not_true, Bool.not_false, Bool.and_eq_true, Bool.or_eq_true, Bool.or_eq_false_iff, beq_iff_eq, beq_eq_false_iff_ne, ne_eq, Int.not_lt, Int.not_le, Decidable.not_not] at hg66
                refine g_step_yes (j := 15) (t := 66) rfl rfl rfl rfl (s_val (v_move rfl) rfl rfl ?_)
                refine g_step_yes (j := 15) (t := 66) rfl rfl rfl rfl (s_val (v_eql rfl rfl) rfl rfl ?_)
                refine g_step_yes (j := 13) (t := 64) rfl rfl rfl rfl (s_val (v_pick_f rfl rfl) rfl rfl ?_)
                refine g_step rfl (s_val (v_pick_t rfl rfl) rfl rfl ?_)
                refine g_step rfl (s_val (v_move rfl) rfl rfl ?_)
                refine g_split 71 rfl (fun hg71 => ?_) (fun hg71 => ?_)
                · try simp only [decide_eq_true_eq, decide_eq_false_iff_not, Bool.not_eq_true', Bool.not_eq_false', Bool.not_eq_eq_eq_not, Bool.not_true, Bool.not_false, Bool.and_eq_true, Bool.or_eq_true, Bool.or_eq_false_iff, beq_iff_eq, beq_eq_false_iff_ne, ne_eq, Int.not_lt, Int.not_le, Decidable.not_not] at hg71
                  refine g_step_yes (j := 20) (t := 71) rfl rfl rfl rfl (s_callp rfl rfl rfl (awake08_ok _) ?_)
                  rintro _ rfl
                  refine g_step rfl (s_val (v_pick_t rfl rfl) rfl rfl ?_)
                  refine g_step rfl (s_val (v_assign rfl) rfl rfl ?_)
                  refine g_nil ?_
                  refine g_next hK40 ?_
                  refine g_keep [4] [] [] rfl rfl rfl rfl ?_
                  refine g_ret ?_
                  refine g_end1 (.inl rfl) Try.results3 (.tmp rfl) [] (ASub.refl _) (AHeap.sub_refl _) (fun p hp => by cases hp) ⟨rfl, ?_⟩
                  rfl
                · exfalso; (try simp only [decide_eq_true_eq, decide_eq_false_iff_not, Bool.not_eq_true', Bool.not_eq_false', Bool.not_eq_eq_eq_not, Bool.not_true, Bool.not_false, Bool.and_eq_true, Bool.or_eq_true, Bool.or_eq_false_iff, beq_iff_eq, beq_eq_false_iff_ne, ne_eq, Int.not_lt, Int.not_le, Decidable.not_not] at hg71); first | (rw [if_pos (by omega)] at hg71; omega) | simp_all
            · try simp only [decide_eq_true_eq, decide_eq_false_iff_not, Bool.not_eq_true', Bool.not_eq_false', Bool.not_eq_eq_eq_not, Bool.not_true, Bool.not_false, Bool.and_eq_true, Bool.or_eq_true, Bool.or_eq_false_iff, beq_iff_eq, beq_eq_false_iff_ne, ne_eq, Int.not_lt, Int.not_le, Decidable.not_not] at hg58
              refine g_step_yes (j := 7) (t := 58) rfl rfl rfl rfl (s_val (v_move rfl) rfl rfl ?_)
              refine g_step_yes (j := 7) (t := 58) rfl rfl rfl rfl (s_val (v_move rfl) rfl rfl ?_)
              refine g_step_yes (j := 7) (t := 58) rfl rfl rfl rfl (s_val (v_eql rfl rfl) rfl rfl ?_)
              refine g_step_yes (j := 4) (t := 55) rfl rfl rfl rfl (s_val (v_pick_f rfl rfl) rfl rfl ?_)
              refine g_step rfl (s_val (v_pick_t rfl rfl) rfl rfl ?_)
              refine g_step rfl (s_val (v_move rfl) rfl rfl ?_)
              refine g_split 64 rfl (fun hg64 => ?_) (fun hg64 => ?_)
              · try simp only [decide_eq_true_eq, decide_eq_false_iff_not, Bool.not_eq_true', Bool.not_eq_false', Bool.not_eq_eq_eq_not, Bool.not_true, Bool.not_false, Bool.and_eq_true, Bool.or_eq_true, Bool.or_eq_false_iff, beq_iff_eq, beq_eq_false_iff_ne, ne_eq, Int.not_lt, Int.not_le, Decidable.not_not] at hg64
                refine g_step_yes (j := 13) (t := 64) rfl rfl rfl rfl (s_val (v_move rfl) rfl rfl ?_)
                refine g_step_yes (j := 13) (t := 64) rfl rfl rfl rfl (s_val (v_move rfl) rfl rfl ?_)
                refine g_split 66 rfl (fun hg66 => ?_) (fun hg66 => ?_)
                · try simp only [decide_eq_true_eq, decide_eq_false_iff_not, Bool.not_eq_true', Bool.not_eq_false', Bool.not_eq_eq_eq_not, Bool.not_true, Bool.not_false, Bool.and_eq_true, Bool.or_eq_true, Bool.or_eq_false_iff, beq_iff_eq, beq_eq_false_iff_ne, ne_eq, Int.not_lt, Int.not_le, Decidable.not_not] at hg66
                  refine g_step_no (j := 15) (t := 66) rfl rfl rfl rfl rfl rfl rfl ?_
                  refine g_step_no (j := 15) (t := 66) rfl rfl rfl rfl rfl rfl rfl ?_
                  refine g_step_yes (j := 13) (t := 64) rfl rfl rfl rfl (s_val (v_pick_t rfl rfl) rfl rfl ?_)
                  refine g_step rfl (s_val (v_pick_t rfl rfl) rfl rfl ?_)
                  refine g_step rfl (s_val (v_move rfl) rfl rfl ?_)
                  refine g_step_yes (j := 20) (t := 71) rfl rfl rfl rfl (s_callp rfl rfl rfl (awake08_ok _) ?_)
                  rintro _ rfl
                  refine g_step rfl (s_val (v_pick_t rfl rfl) rfl rfl ?_)
                  refine g_step rfl (s_val (v_assign rfl) rfl rfl ?_)
                  refine g_nil ?_
                  refine g_next hK40 ?_
                  refine g_keep [4] [] [] rfl rfl rfl rfl ?_
                  refine g_ret ?_
                  refine g_end1 (.inl rfl) Try.results3 (.tmp rfl) [] (ASub.refl _) (AHeap.sub_refl _) (fun p hp => by cases hp) ⟨rfl, ?_⟩
                  rfl
                · try simp only [decide_eq_true_eq, decide_eq_false_iff_not, Bool.not_eq_true', Bool.not_eq_false', Bool.not_eq_eq_eq_not, Bool.not_true, Bool.not_false, Bool.and_eq_true, Bool.or_eq_true, Bool.or_eq_false_iff, beq_iff_eq, beq_eq_false_iff_ne, ne_eq, Int.not_lt, Int.not_le, Decidable.not_not] at hg66
                  refine g_step_yes (j := 15) (t := 66) rfl rfl rfl rfl (s_val (v_move rfl) rfl rfl ?_)
                  refine g_step_yes (j := 15) (t := 66) rfl rfl rfl rfl (s_val (v_eql rfl rfl) rfl rfl ?_)
                  refine g_step_yes (j := 13) (t := 64) rfl rfl rfl rfl (s_val (v_pick_f rfl rfl) rfl rfl ?_)
                  refine g_step rfl (s_val (v_pick_t rfl rfl) rfl rfl ?_)
                  refine g_step rfl (s_val (v_move rfl) rfl rfl ?_)
                  refine g_split 71 rfl (fun hg71 => ?_) (fun hg71 => ?_)
                  · try simp only [decide_eq_true_eq, decide_eq_false_iff_not, Bool.not_eq_true', Bool.not_eq_false', Bool.not_eq_eq_eq_not, Bool.not_true, Bool.not_false, Bool.and_eq_true, Bool.or_eq_true, Bool.or_eq_false_iff, beq_iff_eq, beq_eq_false_iff_ne, ne_eq, Int.not_lt, Int.not_le, Decidable.not_not] at hg71
                    refine g_step_yes (j := 20) (t := 71) rfl rfl rfl rfl (s_callp rfl rfl rfl (awake08_ok _) ?_)
                    rintro _ rfl
                    refine g_step rfl (s_val (v_pick_t rfl rfl) rfl rfl ?_)
                    refine g_step rfl (s_val (v_assign rfl) rfl rfl ?_)
                    refine g_nil ?_
                    refine g_next hK40 ?_
                    refine g_keep [4] [] [] rfl rfl rfl rfl ?_
                    refine g_ret ?_
                    refine g_end1 (.inl rfl) Try.results3 (.tmp rfl) [] (ASub.refl _) (AHeap.sub_refl _) (fun p hp => by cases hp) ⟨rfl, ?_⟩
                    rfl
                  · exfalso; (try simp only [decide_eq_true_eq, decide_eq_false_iff_not, Bool.not_eq_true', Bool.not_eq_false', Bool.not_eq_eq_eq_not, Bool.not_true, Bool.not_false, Bool.and_eq_true, Bool.or_eq_true, Bool.or_eq_false_iff, beq_iff_eq, beq_eq_false_iff_ne, ne_eq, Int.not_lt, Int.not_le, Decidable.not_not] at hg71); first | (rw [if_pos (by omega)] at hg71; omega) | simp_all
              · exfalso; (try simp only [decide_eq_true_eq, decide_eq_false_iff_not, Bool.not_eq_true', Bool.not_eq_false', Bool.not_eq_eq_eq_not, Bool.not_true, Bool.not_false, Bool.and_eq_true, Bool.or_eq_true, Bool.or_eq_false_iff, beq_iff_eq, beq_eq_false_iff_ne, ne_eq, Int.not_lt, Int.not_le, Decidable.not_not] at hg64); first | (simp_all; done) | (simp_all; omega)
          · exfalso; (try simp only [decide_eq_true_eq, decide_eq_false_iff_not, Bool.not_eq_true', Bool.not_eq_false', Bool.not_eq_eq_eq_not, Bool.not_true, Bool.not_false, Bool.and_eq_true, Bool.or_eq_true, Bool.or_eq_false_iff, beq_iff_eq, beq_eq_false_iff_ne, ne_eq, Int.not_lt, Int.not_le, Decidable.not_not] at hg55); simp at hg55

end Go.Proofs.Ytngffembdhcijaa

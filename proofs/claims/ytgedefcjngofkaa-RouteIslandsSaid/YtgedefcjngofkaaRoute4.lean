import Derived.Test.YtgedefcjngofkaaRoute3
import Derived.Test.YtgedefcjngofkaaCarry
import Derived.Test.YtgedefcjngofkaaPRoute4
set_option maxHeartbeats 8000000
set_option linter.unusedSimpArgs false
set_option linter.unusedVariables false
set_option maxRecDepth 100000
namespace Go.Proofs.Ytgedefcjngofkaa
open Go Go.Proofs.Ytgedefcjngofkaa.AM
theorem linked_ok (l : List Rc) (a b : Int) (G : AHeap) (hl : l.length ≤ 100000) (hs : ∀ x ∈ l, Small x.bag) : PCalls Try.prog 47 [encRs l, .int .i64 a, .int .i64 b] G (fun v => v = .tup [.int .i64 (if ((rfind l a).2 && (rfind l b).2 && srt l) = true then lnk (rfind l a).1 (rfind l b).1 else 0), .bool (decide (0 < if ((rfind l a).2 && (rfind l b).2 && srt l) = true then lnk (rfind l a).1 (rfind l b).1 else 0))]) := by
  refine LCalls.intro 42 fi47 rfl Try.ntmps47 rfl (fun _ h => h.elim) (fun H hH w0 hw0 => ?_)
  refine g_seq (fun K0 hK0 => ?_)
  refine g_region ?_
  refine g_step rfl (s_val (v_assign rfl) rfl rfl ?_)
  refine g_step rfl (s_val (v_assign rfl) rfl rfl ?_)
  refine g_nil ?_
  refine g_next hK0 ?_
  refine g_seq (fun K1 hK1 => ?_)
  refine g_region ?_
  refine g_step rfl (s_val (v_move rfl) rfl rfl ?_)
  refine g_step rfl (s_val (v_move rfl) rfl rfl ?_)
  refine g_step rfl (s_callp rfl rfl rfl (find_ok l a _ _ rfl (by omega) hs) ?_)
  rintro _ rfl
  refine g_step rfl (s_val (v_move rfl) rfl rfl ?_)
  refine g_step rfl (s_val (v_extract rfl rfl) rfl rfl ?_)
  refine g_step rfl (s_val (v_extract rfl rfl) rfl rfl ?_)
  refine g_step rfl (s_alloc (av := (.agg [(.int .i64 0), (.int .i64 0), (.int .i64 0), (.int .i64 0), (.int .i64 0), (.bool false), .nil0])) ty32 rfl rfl rfl rfl ?_)
  refine g_step rfl (s_store_all ty32 rfl rfl rfl rfl rfl rfl ?_)
  refine g_step rfl (s_val (v_assign rfl) rfl rfl ?_)
  refine g_nil ?_
  refine g_next hK1 ?_
  refine g_seq (fun K2 hK2 => ?_)
  refine g_region ?_
  refine g_step rfl (s_val (v_move rfl) rfl rfl ?_)
  refine g_step rfl (s_val (v_move rfl) rfl rfl ?_)
  refine g_step rfl (s_callp rfl rfl rfl (find_ok l b _ _ rfl (by omega) hs) ?_)
  rintro _ rfl
  refine g_step rfl (s_val (v_move rfl) rfl rfl ?_)
  refine g_step rfl (s_val (v_extract rfl rfl) rfl rfl ?_)
  refine g_step rfl (s_val (v_extract rfl rfl) rfl rfl ?_)
  refine g_step rfl (s_alloc (av := (.agg [(.int .i64 0), (.int .i64 0), (.int .i64 0), (.int .i64 0), (.int .i64 0), (.bool false), .nil0])) ty32 rfl rfl rfl rfl ?_)
  refine g_step rfl (s_store_all ty32 rfl rfl rfl rfl rfl rfl ?_)
  refine g_step rfl (s_val (v_assign rfl) rfl rfl ?_)
  refine g_nil ?_
  refine g_next hK2 ?_
  refine g_seq (fun K3 hK3 => ?_)
  refine g_seq (fun K4 hK4 => ?_)
  refine g_region ?_
  refine g_step rfl (s_val (v_move rfl) rfl rfl ?_)
  refine g_step rfl (s_val (v_not rfl) rfl rfl ?_)
  refine g_step rfl (s_val (v_move rfl) rfl rfl ?_)
  refine g_split 27 rfl (fun hg27 => ?_) (fun hg27 => ?_)
  · try simp only [decide_eq_true_eq, decide_eq_false_iff_not, Bool.not_eq_true', Bool.not_eq_false', Bool.not_eq_eq_eq_not, Bool.not_true, Bool.not_false, Bool.and_eq_true, Bool.or_eq_true, Bool.or_eq_false_iff, beq_iff_eq, beq_eq_false_iff_ne, ne_eq, Int.not_lt, Int.not_le, Decidable.not_not] at hg27
    refine g_step_no (j := 2) (t := 27) rfl rfl rfl rfl rfl rfl rfl ?_
    refine g_step_no (j := 2) (t := 27) rfl rfl rfl rfl rfl rfl rfl ?_
    refine g_step rfl (s_val (v_pick_t rfl rfl) rfl rfl ?_)
    refine g_step rfl (s_val (v_move rfl) rfl rfl ?_)
    refine g_step_no (j := 6) (t := 31) rfl rfl rfl rfl rfl rfl rfl ?_
    refine g_step_no (j := 6) (t := 31) rfl rfl rfl rfl rfl rfl rfl ?_
    refine g_step_no (j := 6) (t := 31) rfl rfl rfl rfl rfl rfl rfl ?_
    refine g_step rfl (s_val (v_pick_t rfl rfl) rfl rfl ?_)
    refine g_nil ?_
    refine g_next hK4 ?_
    first | refine g_keep [35] [8, 10] [8, 10] (keep_cons rfl keep_nil) (lkeep_cons rfl (lkeep_cons rfl lkeep_nil)) (keep_cons rfl (keep_cons rfl keep_nil)) rfl ?_ | refine g_keep [35] [8, 10] [8, 10] rfl rfl rfl rfl ?_
    refine g_cond rfl (fun _ => ?_) (fun h => by cases h)
    refine g_seq (fun K5 hK5 => ?_)
    refine g_region ?_
    refine g_step rfl (s_val (v_assign rfl) rfl rfl ?_)
    refine g_step rfl (s_val (v_assign rfl) rfl rfl ?_)
    refine g_nil ?_
    refine g_next hK5 ?_
    refine g_ret ?_
    refine g_then_ret ?_
    refine g_end2 (.inl rfl) Try.results47 (.tmp rfl) (.tmp rfl) [] (ASub.refl _) (AHeap.sub_refl _) (fun p hp => by cases hp) ⟨rfl, ?_⟩
    first | (rw [if_neg (by simp_all)]; rfl; done) | (rw [if_neg (by simp_all)]; rfl; rfl)
  · try simp only [decide_eq_true_eq, decide_eq_false_iff_not, Bool.not_eq_true', Bool.not_eq_false', Bool.not_eq_eq_eq_not, Bool.not_true, Bool.not_false, Bool.and_eq_true, Bool.or_eq_true, Bool.or_eq_false_iff, beq_iff_eq, beq_eq_false_iff_ne, ne_eq, Int.not_lt, Int.not_le, Decidable.not_not] at hg27
    refine g_step_yes (j := 2) (t := 27) rfl rfl rfl rfl (s_val (v_move rfl) rfl rfl ?_)
    refine g_step_yes (j := 2) (t := 27) rfl rfl rfl rfl (s_val (v_not rfl) rfl rfl ?_)
    refine g_step rfl (s_val (v_pick_f rfl rfl) rfl rfl ?_)
    refine g_step rfl (s_val (v_move rfl) rfl rfl ?_)
    refine g_split 31 rfl (fun hg31 => ?_) (fun hg31 => ?_)
    · try simp only [decide_eq_true_eq, decide_eq_false_iff_not, Bool.not_eq_true', Bool.not_eq_false', Bool.not_eq_eq_eq_not, Bool.not_true, Bool.not_false, Bool.and_eq_true, Bool.or_eq_true, Bool.or_eq_false_iff, beq_iff_eq, beq_eq_false_iff_ne, ne_eq, Int.not_lt, Int.not_le, Decidable.not_not] at hg31
      refine g_step_no (j := 6) (t := 31) rfl rfl rfl rfl rfl rfl rfl ?_
      refine g_step_no (j := 6) (t := 31) rfl rfl rfl rfl rfl rfl rfl ?_
      refine g_step_no (j := 6) (t := 31) rfl rfl rfl rfl rfl rfl rfl ?_
      refine g_step rfl (s_val (v_pick_t rfl rfl) rfl rfl ?_)
      refine g_nil ?_
      refine g_next hK4 ?_
      first | refine g_keep [35] [8, 10] [8, 10] (keep_cons rfl keep_nil) (lkeep_cons rfl (lkeep_cons rfl lkeep_nil)) (keep_cons rfl (keep_cons rfl keep_nil)) rfl ?_ | refine g_keep [35] [8, 10] [8, 10] rfl rfl rfl rfl ?_
      refine g_cond rfl (fun _ => ?_) (fun h => by cases h)
      refine g_seq (fun K6 hK6 => ?_)
      refine g_region ?_
      refine g_step rfl (s_val (v_assign rfl) rfl rfl ?_)
      refine g_step rfl (s_val (v_assign rfl) rfl rfl ?_)
      refine g_nil ?_
      refine g_next hK6 ?_
      refine g_ret ?_
      refine g_then_ret ?_
      refine g_end2 (.inl rfl) Try.results47 (.tmp rfl) (.tmp rfl) [] (ASub.refl _) (AHeap.sub_refl _) (fun p hp => by cases hp) ⟨rfl, ?_⟩
      first | (rw [if_neg (by simp_all)]; rfl; done) | (rw [if_neg (by simp_all)]; rfl; rfl)
    · try simp only [decide_eq_true_eq, decide_eq_false_iff_not, Bool.not_eq_true', Bool.not_eq_false', Bool.not_eq_eq_eq_not, Bool.not_true, Bool.not_false, Bool.and_eq_true, Bool.or_eq_true, Bool.or_eq_false_iff, beq_iff_eq, beq_eq_false_iff_ne, ne_eq, Int.not_lt, Int.not_le, Decidable.not_not] at hg31
      refine g_step_yes (j := 6) (t := 31) rfl rfl rfl rfl (s_val (v_move rfl) rfl rfl ?_)
      refine g_step_yes (j := 6) (t := 31) rfl rfl rfl rfl (s_callp rfl rfl rfl (sorted_ok l _ (by omega) hs) ?_)
      rintro _ rfl
      refine g_step_yes (j := 6) (t := 31) rfl rfl rfl rfl (s_val (v_not rfl) rfl rfl ?_)
      refine g_step rfl (s_val (v_pick_f rfl rfl) rfl rfl ?_)
      refine g_nil ?_
      refine g_next hK4 ?_
      first | refine g_keep [35] [8, 10] [8, 10] (keep_cons rfl keep_nil) (lkeep_cons rfl (lkeep_cons rfl lkeep_nil)) (keep_cons rfl (keep_cons rfl keep_nil)) rfl ?_ | refine g_keep [35] [8, 10] [8, 10] rfl rfl rfl rfl ?_
      refine g_cond rfl (fun hc35 => ?_) (fun hc35 => ?_)
      · try simp only [decide_eq_true_eq, decide_eq_false_iff_not, Bool.not_eq_true', Bool.not_eq_false', Bool.not_eq_eq_eq_not, Bool.not_true, Bool.not_false, Bool.and_eq_true, Bool.or_eq_true, Bool.or_eq_false_iff, beq_iff_eq, beq_eq_false_iff_ne, ne_eq, Int.not_lt, Int.not_le, Decidable.not_not] at hc35
        refine g_seq (fun K7 hK7 => ?_)
        refine g_region ?_
        refine g_step rfl (s_val (v_assign rfl) rfl rfl ?_)
        refine g_step rfl (s_val (v_assign rfl) rfl rfl ?_)
        refine g_nil ?_
        refine g_next hK7 ?_
        refine g_ret ?_
        refine g_then_ret ?_
        refine g_end2 (.inl rfl) Try.results47 (.tmp rfl) (.tmp rfl) [] (ASub.refl _) (AHeap.sub_refl _) (fun p hp => by cases hp) ⟨rfl, ?_⟩
        first | (rw [if_neg (by simp_all)]; rfl; done) | (rw [if_neg (by simp_all)]; rfl; rfl)
      · try simp only [decide_eq_true_eq, decide_eq_false_iff_not, Bool.not_eq_true', Bool.not_eq_false', Bool.not_eq_eq_eq_not, Bool.not_true, Bool.not_false, Bool.and_eq_true, Bool.or_eq_true, Bool.or_eq_false_iff, beq_iff_eq, beq_eq_false_iff_ne, ne_eq, Int.not_lt, Int.not_le, Decidable.not_not] at hc35
        refine g_skip ?_
        refine g_next hK3 ?_
        refine g_seq (fun K8 hK8 => ?_)
        refine g_region ?_
        refine g_step rfl (s_val (by first | exact v_loadl_all ty32 rfl rfl rfl rfl rfl | exact v_loadl_part (cs := [_, _, _, _, _, _, _]) ty32 rfl rfl rfl rfl rfl rfl) rfl rfl ?_)
        refine g_step rfl (s_val (by first | exact v_loadl_all ty32 rfl rfl rfl rfl rfl | exact v_loadl_part (cs := [_, _, _, _, _, _, _]) ty32 rfl rfl rfl rfl rfl rfl) rfl rfl ?_)
        refine g_step rfl (s_callp rfl rfl rfl (link_ok (rfind l a).1 (rfind l b).1 _) ?_)
        rintro _ rfl
        refine g_step rfl (s_val (v_assign rfl) rfl rfl ?_)
        refine g_nil ?_
        refine g_next hK8 ?_
        refine g_seq (fun K9 hK9 => ?_)
        refine g_region ?_
        refine g_step rfl (s_val (v_move rfl) rfl rfl ?_)
        refine g_step rfl (s_val (v_move rfl) rfl rfl ?_)
        refine g_step rfl (s_val (v_gtr rfl rfl) rfl rfl ?_)
        refine g_step rfl (s_val (v_assign rfl) rfl rfl ?_)
        refine g_step rfl (s_val (v_assign rfl) rfl rfl ?_)
        refine g_nil ?_
        refine g_next hK9 ?_
        refine g_ret ?_
        refine g_end2 (.inl rfl) Try.results47 (.tmp rfl) (.tmp rfl) [] (ASub.refl _) (AHeap.sub_refl _) (fun p hp => by cases hp) ⟨rfl, ?_⟩
        first | (rw [if_pos (by simp_all)]; done) | (rw [if_pos (by simp_all)]; rfl)

theorem islands_ok (l : List Rc) (G : AHeap) (hl : l.length ≤ 1000) (hs : ∀ x ∈ l, Small x.bag) : PCalls Try.prog 45 [encRs l] G (fun v => v = .imm ((islandsL l).map encIL)) := by
  refine LCalls.intro 61 fi45 rfl Try.ntmps45 rfl (fun _ h => h.elim) (fun H hH w0 hw0 => ?_)
  refine g_seq (fun K0 hK0 => ?_)
  refine g_region ?_
  refine g_step rfl (s_val (v_assign rfl) rfl rfl ?_)
  refine g_nil ?_
  refine g_next hK0 ?_
  refine g_seq (fun K1 hK1 => ?_)
  refine g_seq (fun K2 hK2 => ?_)
  refine g_region ?_
  refine g_step rfl (s_val (v_move rfl) rfl rfl ?_)
  refine g_step rfl (s_callp rfl rfl rfl (sorted_ok l _ (by omega) hs) ?_)
  rintro _ rfl
  refine g_step rfl (s_val (v_not rfl) rfl rfl ?_)
  refine g_nil ?_
  refine g_next hK2 ?_
  refine g_cond rfl (fun hc12 => ?_) (fun hc12 => ?_)
  · try simp only [decide_eq_true_eq, decide_eq_false_iff_not, Bool.not_eq_true', Bool.not_eq_false', Bool.not_eq_eq_eq_not, Bool.not_true, Bool.not_false, Bool.and_eq_true, Bool.or_eq_true, Bool.or_eq_false_iff, beq_iff_eq, beq_eq_false_iff_ne, ne_eq, Int.not_lt, Int.not_le, Decidable.not_not] at hc12
    refine g_seq (fun K3 hK3 => ?_)
    refine g_region ?_
    refine g_step rfl (s_val (v_assign rfl) rfl rfl ?_)
    refine g_nil ?_
    refine g_next hK3 ?_
    refine g_ret ?_
    refine g_then_ret ?_
    refine g_end1 (.inl rfl) Try.results45 (.tmp rfl) [] ASub.nil0 (AHeap.sub_refl _) (fun p hp => by cases hp) ⟨rfl, ?_⟩
    first | (rw [islandsL, if_neg (by rw [hc12]; simp)]; rfl; done) | (rw [islandsL, if_neg (by rw [hc12]; simp)]; rfl; rfl)
  · try simp only [decide_eq_true_eq, decide_eq_false_iff_not, Bool.not_eq_true', Bool.not_eq_false', Bool.not_eq_eq_eq_not, Bool.not_true, Bool.not_false, Bool.and_eq_true, Bool.or_eq_true, Bool.or_eq_false_iff, beq_iff_eq, beq_eq_false_iff_ne, ne_eq, Int.not_lt, Int.not_le, Decidable.not_not] at hc12
    refine g_skip ?_
    refine g_next hK1 ?_
    refine g_seq (fun K4 hK4 => ?_)
    refine g_region ?_
    refine g_step rfl (s_val (v_assign rfl) rfl rfl ?_)
    refine g_nil ?_
    refine g_next hK4 ?_
    refine g_seq (fun K5 hK5 => ?_)
    refine g_region ?_
    refine g_step rfl (s_val (v_move rfl) rfl rfl ?_)
    refine g_step rfl (s_val (v_len ty22 rfl (by first | rfl | assumption) (by first | exact List.length_map .. | rfl)) rfl rfl ?_)
    refine g_step rfl (s_makeO (n := l.length) (za := (.bool false)) ty126 ty4 rfl rfl rfl rfl rfl rfl (by omega) (by omega) ?_)
    intro r15 hr15 hw15
    refine g_step rfl (s_val (v_assign rfl) rfl rfl ?_)
    refine g_nil ?_
    refine g_next hK5 ?_
    refine g_seq (fun K6 hK6 => ?_)
    refine g_seq (fun K7 hK7 => ?_)
    refine g_region ?_
    refine g_step rfl (s_val (v_move rfl) rfl rfl ?_)
    refine g_step rfl (s_val (v_len ty22 rfl (by first | rfl | assumption) (by first | exact List.length_map .. | rfl)) rfl rfl ?_)
    refine g_step rfl (s_val (v_move rfl) rfl rfl ?_)
    refine g_nil ?_
    refine g_next hK7 ?_
    refine g_block ?_
    first | refine g_keep [0, 3, 4, 16, 17, 18] [] [] (keep_cons rfl (keep_cons rfl (keep_cons rfl (keep_cons rfl (keep_cons rfl (keep_cons rfl keep_nil)))))) lkeep_nil keep_nil rfl ?_ | refine g_keep [0, 3, 4, 16, 17, 18] [] [] rfl rfl rfl rfl ?_
    refine g_loop (fun n env L B G => ∃ (i : Nat) (av : AV) (S : List Bool), i ≤ l.length ∧ n = l.length - i ∧ env = [(0, encRs l), (3, av), (4, .own r15 1 0 l.length), (16, encRs l), (17, .int .i64 (l.length : Int)), (18, .int .i64 (i : Int))] ∧ L = [] ∧ B = [] ∧ S = (List.range l.length).map (fun k => seenB l (starts l i) k) ∧ Own w0.heap.size 1 (H.set r15 (.row 1 (S.map .bool))) av (((starts l i).map (islandOf l)).map encIL) G) (l.length) ⟨0, .nil0, ((List.range l.length).map (fun k => seenB l (starts l 0) k)), Nat.zero_le _, rfl, rfl, rfl, rfl, ⟨rfl, by rw [← rep_false]; exact Own.nil ..⟩⟩ (fun n env L B G hI => ?_)
    obtain ⟨i, av, S, hi, rfl, rfl, rfl, rfl, hS, hown⟩ := hI
    have hGr := hown.sub _ _ (AHeap.get_set H r15 _)
    have hSl : S.length = l.length := by rw [hS]; simp
    refine g_seq (fun K8 hK8 => ?_)
    refine g_region ?_
    refine g_step rfl (s_val (v_lss rfl rfl) rfl rfl ?_)
    refine g_nil ?_
    refine g_next hK8 ?_
    refine g_seq (fun K9 hK9 => ?_)
    refine g_cond rfl (fun hc19 => ?_) (fun hc19 => ?_)
    · try simp only [decide_eq_true_eq, decide_eq_false_iff_not, Bool.not_eq_true', Bool.not_eq_false', Bool.not_eq_eq_eq_not, Bool.not_true, Bool.not_false, Bool.and_eq_true, Bool.or_eq_true, Bool.or_eq_false_iff, beq_iff_eq, beq_eq_false_iff_ne, ne_eq, Int.not_lt, Int.not_le, Decidable.not_not] at hc19
      obtain ⟨x, hx⟩ := get_some (l := l) (k := i) (by omega)
      have hSi : S[i]? = some (seenB l (starts l i) i) := by rw [hS]; exact range_get _ (by omega)
      have hsl := starts_len l i
      refine g_skip ?_
      refine g_next hK9 ?_
      refine g_seq (fun K10 hK10 => ?_)
      refine g_block ?_
      refine g_seq (fun K11 hK11 => ?_)
      refine g_region ?_
      refine g_step rfl (s_val (v_move rfl) rfl rfl ?_)
      refine g_step rfl (s_val (v_indexAddr ty22 ty32 rfl rfl (by first | rfl | assumption) (by first | rfl | exact (rfl : (0 : Int) = ((0 : Nat) : Int)) | exact (Int.toNat_of_nonneg (by omega)).symm) (map_get hx) rfl) rfl rfl ?_)
      refine g_step rfl (s_val (by first | exact v_load_elt ty32 rfl rfl (by first | rfl | assumption) (map_get hx) rfl rfl | exact v_load_box_all ty32 rfl rfl (by assumption) rfl rfl | exact v_load_part (cs := [_, _, _, _, _, _, _]) ty32 rfl rfl (by first | rfl | assumption) (map_get hx) rfl rfl rfl | exact v_load_box_part (cs := [_, _, _, _, _, _, _]) ty32 rfl rfl (by assumption) rfl rfl rfl) rfl rfl ?_)
      refine g_step rfl (s_alloc (av := (.agg [(.int .i64 0), (.int .i64 0), (.int .i64 0), (.int .i64 0), (.int .i64 0), (.bool false), .nil0])) ty32 rfl rfl rfl rfl ?_)
      refine g_step rfl (s_val (v_assign rfl) rfl rfl ?_)
      refine g_step rfl (s_store_all ty32 rfl rfl rfl rfl rfl rfl ?_)
      refine g_nil ?_
      refine g_next hK11 ?_
      refine g_seq (fun K12 hK12 => ?_)
      refine g_seq (fun K13 hK13 => ?_)
      refine g_region ?_
      refine g_step rfl (s_val (v_move rfl) rfl rfl ?_)
      refine g_step rfl (s_val (v_move rfl) rfl rfl ?_)
      refine g_step rfl (s_val (v_indexAddr ty126 ty4 rfl rfl (AV.view_own_all hGr (by rw [List.length_map]; omega)) (by first | rfl | exact (rfl : (0 : Int) = ((0 : Nat) : Int)) | exact (Int.toNat_of_nonneg (by omega)).symm) (map_get hSi) rfl) rfl rfl ?_)
      refine g_step rfl (s_val (by first | exact v_load ty4 rfl rfl (AV.view_own_all hGr (by rw [List.length_map]; omega)) (map_get hSi) rfl | exact v_load_box ty4 rfl rfl (by assumption) rfl) rfl rfl ?_)
      refine g_step rfl (s_val (v_move rfl) rfl rfl ?_)
      refine g_split 27 rfl (fun hg27 => ?_) (fun hg27 => ?_)
      · try simp only [decide_eq_true_eq, decide_eq_false_iff_not, Bool.not_eq_true', Bool.not_eq_false', Bool.not_eq_eq_eq_not, Bool.not_true, Bool.not_false, Bool.and_eq_true, Bool.or_eq_true, Bool.or_eq_false_iff, beq_iff_eq, beq_eq_false_iff_ne, ne_eq, Int.not_lt, Int.not_le, Decidable.not_not] at hg27
        refine g_step_no (j := 4) (t := 27) rfl rfl rfl rfl rfl rfl rfl ?_
        refine g_step_no (j := 4) (t := 27) rfl rfl rfl rfl rfl rfl rfl ?_
        refine g_step_no (j := 4) (t := 27) rfl rfl rfl rfl rfl rfl rfl ?_
        refine g_step rfl (s_val (v_pick_t rfl rfl) rfl rfl ?_)
        refine g_nil ?_
        refine g_next hK13 ?_
        refine g_cond rfl (fun _ => ?_) (fun h => by cases h)
        refine g_exit ?_
        refine g_then_exit ?_
        refine g_block_same ?_
        refine g_next hK10 ?_
        refine g_region ?_
        refine g_step rfl (s_val (v_add rfl rfl (by omega)) rfl rfl ?_)
        refine g_step rfl (s_val (v_move rfl) rfl rfl ?_)
        refine g_nil ?_
        first | refine g_keep [0, 3, 4, 16, 17, 18] [] [] (keep_cons rfl (keep_cons rfl (keep_cons rfl (keep_cons rfl (keep_cons rfl (keep_cons rfl keep_nil)))))) lkeep_nil keep_nil rfl ?_ | refine g_keep [0, 3, 4, 16, 17, 18] [] [] rfl rfl rfl rfl ?_
        first | exact g_round _ (by omega) ⟨i + 1, av58, S2, by omega, rfl, rfl, rfl, rfl, ⟨by rw [starts_yes hx hcx hsx, hS2]; exact range_congr fun j hj => by rw [seen_app]; simp only [hj, ↓reduceIte], by rw [starts_yes hx hcx hsx, List.map_append, List.map_append]; exact hown58⟩⟩ | exact g_round _ (by omega) ⟨i + 1, av, S, by omega, rfl, rfl, rfl, rfl, ⟨by rw [starts_no hx (by simp_all)]; exact hS, by rw [starts_no hx (by simp_all)]; exact hown⟩⟩
      · try simp only [decide_eq_true_eq, decide_eq_false_iff_not, Bool.not_eq_true', Bool.not_eq_false', Bool.not_eq_eq_eq_not, Bool.not_true, Bool.not_false, Bool.and_eq_true, Bool.or_eq_true, Bool.or_eq_false_iff, beq_iff_eq, beq_eq_false_iff_ne, ne_eq, Int.not_lt, Int.not_le, Decidable.not_not] at hg27
        refine g_step_yes (j := 4) (t := 27) rfl rfl rfl rfl (s_val (by first | exact v_loadl_all ty32 rfl rfl rfl rfl rfl | exact v_loadl_part (cs := [_, _, _, _, _, _, _]) ty32 rfl rfl rfl rfl rfl rfl) rfl rfl ?_)
        refine g_step_yes (j := 4) (t := 27) rfl rfl rfl rfl (s_callp rfl rfl rfl (rcounts_ok _ _) ?_)
        rintro _ rfl
        refine g_step_yes (j := 4) (t := 27) rfl rfl rfl rfl (s_val (v_not rfl) rfl rfl ?_)
        refine g_step rfl (s_val (v_pick_f rfl rfl) rfl rfl ?_)
        refine g_nil ?_
        refine g_next hK13 ?_
        refine g_cond rfl (fun hc31 => ?_) (fun hc31 => ?_)
        · try simp only [decide_eq_true_eq, decide_eq_false_iff_not, Bool.not_eq_true', Bool.not_eq_false', Bool.not_eq_eq_eq_not, Bool.not_true, Bool.not_false, Bool.and_eq_true, Bool.or_eq_true, Bool.or_eq_false_iff, beq_iff_eq, beq_eq_false_iff_ne, ne_eq, Int.not_lt, Int.not_le, Decidable.not_not] at hc31
          refine g_exit ?_
          refine g_then_exit ?_
          refine g_block_same ?_
          refine g_next hK10 ?_
          refine g_region ?_
          refine g_step rfl (s_val (v_add rfl rfl (by omega)) rfl rfl ?_)
          refine g_step rfl (s_val (v_move rfl) rfl rfl ?_)
          refine g_nil ?_
          first | refine g_keep [0, 3, 4, 16, 17, 18] [] [] (keep_cons rfl (keep_cons rfl (keep_cons rfl (keep_cons rfl (keep_cons rfl (keep_cons rfl keep_nil)))))) lkeep_nil keep_nil rfl ?_ | refine g_keep [0, 3, 4, 16, 17, 18] [] [] rfl rfl rfl rfl ?_
          first | exact g_round _ (by omega) ⟨i + 1, av58, S2, by omega, rfl, rfl, rfl, rfl, ⟨by rw [starts_yes hx hcx hsx, hS2]; exact range_congr fun j hj => by rw [seen_app]; simp only [hj, ↓reduceIte], by rw [starts_yes hx hcx hsx, List.map_append, List.map_append]; exact hown58⟩⟩ | exact g_round _ (by omega) ⟨i + 1, av, S, by omega, rfl, rfl, rfl, rfl, ⟨by rw [starts_no hx (by simp_all)]; exact hS, by rw [starts_no hx (by simp_all)]; exact hown⟩⟩
        · try simp only [decide_eq_true_eq, decide_eq_false_iff_not, Bool.not_eq_true', Bool.not_eq_false', Bool.not_eq_eq_eq_not, Bool.not_true, Bool.not_false, Bool.and_eq_true, Bool.or_eq_true, Bool.or_eq_false_iff, beq_iff_eq, beq_eq_false_iff_ne, ne_eq, Int.not_lt, Int.not_le, Decidable.not_not] at hc31
          refine g_skip ?_
          refine g_next hK12 ?_
          refine g_seq (fun K14 hK14 => ?_)
          refine g_region ?_
          have hcx : cnt x = true := by simp_all
          have hsx : seenB l (starts l i) i = false := by simp_all
          refine g_step rfl (s_val (v_assign rfl) rfl rfl ?_)
          refine g_nil ?_
          refine g_next hK14 ?_
          refine g_seq (fun K15 hK15 => ?_)
          refine g_seq (fun K16 hK16 => ?_)
          refine g_region ?_
          refine g_step rfl (s_val (v_move rfl) rfl rfl ?_)
          refine g_step rfl (s_val (v_move rfl) rfl rfl ?_)
          refine g_step rfl (s_callp rfl rfl rfl (far_ok l i 1 _ hl (by omega)) ?_)
          rintro _ rfl
          refine g_step rfl (s_val (v_len ty27 rfl (by first | rfl | assumption) (by rw [List.length_map, farP_length])) rfl rfl ?_)
          refine g_step rfl (s_val (v_move rfl) rfl rfl ?_)
          refine g_nil ?_
          refine g_next hK16 ?_
          first | refine g_keep [0, 3, 4, 7, 16, 17, 18, 34, 35, 36] [] [] (keep_cons rfl (keep_cons rfl (keep_cons rfl (keep_cons rfl (keep_cons rfl (keep_cons rfl (keep_cons rfl (keep_cons rfl (keep_cons rfl (keep_cons rfl keep_nil)))))))))) lkeep_nil keep_nil rfl ?_ | refine g_keep [0, 3, 4, 7, 16, 17, 18, 34, 35, 36] [] [] rfl rfl rfl rfl ?_
          refine g_block ?_
          first | refine g_keep [0, 3, 4, 7, 16, 17, 18, 34, 35, 36] [] [] (keep_cons rfl (keep_cons rfl (keep_cons rfl (keep_cons rfl (keep_cons rfl (keep_cons rfl (keep_cons rfl (keep_cons rfl (keep_cons rfl (keep_cons rfl keep_nil)))))))))) lkeep_nil keep_nil rfl ?_ | refine g_keep [0, 3, 4, 7, 16, 17, 18, 34, 35, 36] [] [] rfl rfl rfl rfl ?_
          refine g_loop (fun n env L B G => ∃ (k : Nat) (av7 : AV) (Gm : AHeap) (S2 : List Bool), k ≤ l.length ∧ n = l.length - k ∧ env = [(0, encRs l), (3, av), (4, .own r15 1 0 l.length), (7, av7), (16, encRs l), (17, .int .i64 (l.length : Int)), (18, .int .i64 (i : Int)), (34, .imm ((farP l i 1).map (.int .i64))), (35, .int .i64 (l.length : Int)), (36, .int .i64 (k : Int))] ∧ L = [] ∧ B = [] ∧ S2 = (List.range l.length).map (fun j => if j < k then (fun j => seenB l (starts l i) j || on l i j) j else (fun j => seenB l (starts l i) j) j) ∧ Own w0.heap.size 1 (H.set r15 (.row 1 (S2.map .bool))) av (((starts l i).map (islandOf l)).map encIL) Gm ∧ Own w0.heap.size 1 Gm av7 ((((List.range k).filter (on l i)).map fun k => (rat l k).id).map (.int .i64)) G) (l.length) ⟨0, .nil0, G, S, Nat.zero_le _, rfl, rfl, rfl, rfl, ⟨by rw [hS]; exact range_congr fun j hj => by simp, hown, Own.nil ..⟩⟩ (fun n env L B G hI => ?_)
          obtain ⟨k, av7, Gm, S2, hk, rfl, rfl, rfl, rfl, hS2, hown1, hown7⟩ := hI
          have hGr2 := hown7.sub _ _ (hown1.sub _ _ (AHeap.get_set H r15 _))
          have hSl2 : S2.length = l.length := by rw [hS2]; simp
          refine g_seq (fun K17 hK17 => ?_)
          refine g_region ?_
          refine g_step rfl (s_val (v_lss rfl rfl) rfl rfl ?_)
          refine g_nil ?_
          refine g_next hK17 ?_
          refine g_seq (fun K18 hK18 => ?_)
          refine g_cond rfl (fun hc37 => ?_) (fun hc37 => ?_)
          · try simp only [decide_eq_true_eq, decide_eq_false_iff_not, Bool.not_eq_true', Bool.not_eq_false', Bool.not_eq_eq_eq_not, Bool.not_true, Bool.not_false, Bool.and_eq_true, Bool.or_eq_true, Bool.or_eq_false_iff, beq_iff_eq, beq_eq_false_iff_ne, ne_eq, Int.not_lt, Int.not_le, Decidable.not_not] at hc37
            obtain ⟨y, hy⟩ := get_some (l := l) (k := k) (by omega)
            have hSk : S2[k]? = some (seenB l (starts l i) k) := by rw [hS2, range_get _ (by omega)]; simp
            have hfg := farP_get (l := l) (f := i) (least := 1) (show k < l.length by omega)
            have hyr := rat_eq hy
            have hfl := List.length_filter_le (on l i) (List.range k)
            rw [List.length_range] at hfl
            refine g_skip ?_
            refine g_next hK18 ?_
            refine g_seq (fun K19 hK19 => ?_)
            refine g_block ?_
            refine g_seq (fun K20 hK20 => ?_)
            refine g_region ?_
            refine g_step rfl (s_val (v_move rfl) rfl rfl ?_)
            refine g_step rfl (s_val (v_indexAddr ty27 ty3 rfl rfl (by first | rfl | assumption) (by first | rfl | exact (rfl : (0 : Int) = ((0 : Nat) : Int)) | exact (Int.toNat_of_nonneg (by omega)).symm) (map_get hfg) rfl) rfl rfl ?_)
            refine g_step rfl (s_val (by first | exact v_load ty3 rfl rfl (by first | rfl | assumption) (map_get hfg) rfl | exact v_load_box ty3 rfl rfl (by assumption) rfl) rfl rfl ?_)
            refine g_step rfl (s_val (v_assign rfl) rfl rfl ?_)
            refine g_step rfl (s_val (v_assign rfl) rfl rfl ?_)
            refine g_nil ?_
            refine g_next hK20 ?_
            refine g_seq (fun K21 hK21 => ?_)
            refine g_region ?_
            refine g_step rfl (s_val (v_move rfl) rfl rfl ?_)
            refine g_step rfl (s_val (v_geq rfl rfl) rfl rfl ?_)
            refine g_nil ?_
            refine g_next hK21 ?_
            refine g_cond rfl (fun hc42 => ?_) (fun hc42 => ?_)
            · try simp only [decide_eq_true_eq, decide_eq_false_iff_not, Bool.not_eq_true', Bool.not_eq_false', Bool.not_eq_eq_eq_not, Bool.not_true, Bool.not_false, Bool.and_eq_true, Bool.or_eq_true, Bool.or_eq_false_iff, beq_iff_eq, beq_eq_false_iff_ne, ne_eq, Int.not_lt, Int.not_le, Decidable.not_not] at hc42
              have hon : on l i k = true := decide_eq_true (by omega)
              refine g_seq (fun K22 hK22 => ?_)
              refine g_region ?_
              refine g_step rfl (s_val (v_move rfl) rfl rfl ?_)
              refine g_step rfl (s_val (v_move rfl) rfl rfl ?_)
              refine g_step rfl (s_val (v_indexAddr ty126 ty4 rfl rfl (AV.view_own_all hGr2 (by rw [List.length_map]; omega)) (by first | rfl | exact (rfl : (0 : Int) = ((0 : Nat) : Int)) | exact (Int.toNat_of_nonneg (by omega)).symm) (map_get hSk) rfl) rfl rfl ?_)
              refine g_step rfl (s_store_row (k := k) (off := 0) (old := .bool (seenB l (starts l i) k)) (new := .bool true) ty4 rfl rfl hGr2 (by rw [Nat.zero_add]; exact map_get hSk) rfl rfl rfl rfl (.inr hw15) ?_)
              rw [Nat.zero_add k, show (List.map AV.bool S2).set k (.bool true) = (S2.set k true).map .bool from List.map_set.symm]
              have hGm := hown1.sub _ _ (AHeap.get_set H r15 _)
              have hownb := own_put (.row 1 ((S2.set k true).map .bool)) hown1 (AHeap.get_set H r15 _)
              rw [AHeap.set_set] at hownb
              have hownc := own_put (.row 1 ((S2.set k true).map .bool)) hown7 hGm
              refine g_nil ?_
              refine g_next hK22 ?_
              refine g_region ?_
              refine g_step rfl (s_val (v_move rfl) rfl rfl ?_)
              refine g_step rfl (s_val (v_move rfl) rfl rfl ?_)
              refine g_step rfl (s_val (v_move rfl) rfl rfl ?_)
              refine g_step rfl (s_val (v_indexAddr ty22 ty32 rfl rfl (by first | rfl | assumption) (by first | rfl | exact (rfl : (0 : Int) = ((0 : Nat) : Int)) | exact (Int.toNat_of_nonneg (by omega)).symm) (map_get hy) rfl) rfl rfl ?_)
              refine g_step rfl (s_val (by first | exact v_fieldAddr ty32 fo32_0 ty3 rfl | exact v_fieldAddr_box ty32 fo32_0 ty3 rfl) rfl rfl ?_)
              refine g_step rfl (s_val (by first | exact v_load ty3 rfl rfl (by first | rfl | assumption) (map_get hy) rfl | exact v_load_box ty3 rfl rfl (by assumption) rfl) rfl rfl ?_)
              refine g_step rfl (s_lit ty27 ty3 rfl rfl rfl rfl rfl rfl rfl ?_)
              refine g_step rfl (s_append (l := ((((List.range k).filter (on l i)).map fun k => (rat l k).id).map (.int .i64))) (m := ([y.id].map (.int .i64))) ty27 ty3 rfl rfl hownc rfl rfl (by refine Even.map _ ?_ _; intro _; rfl) (by intro x hx; obtain ⟨_, _, rfl⟩ := List.mem_map.1 hx; rfl) rfl (by simp; omega) (by simp; omega) ?_)
              intro av53 G53 hown53
              refine g_step rfl (s_val (v_assign rfl) rfl rfl ?_)
              refine g_nil ?_
              refine g_block_normal ?_
              refine g_next hK19 ?_
              first | refine g_keep [0, 3, 4, 7, 16, 17, 18, 34, 35, 36] [] [] (keep_cons rfl (keep_cons rfl (keep_cons rfl (keep_cons rfl (keep_cons rfl (keep_cons rfl (keep_cons rfl (keep_cons rfl (keep_cons rfl (keep_cons rfl keep_nil)))))))))) lkeep_nil keep_nil rfl ?_ | refine g_keep [0, 3, 4, 7, 16, 17, 18, 34, 35, 36] [] [] rfl rfl rfl rfl ?_
              refine g_region ?_
              refine g_step rfl (s_val (v_add rfl rfl (by omega)) rfl rfl ?_)
              refine g_step rfl (s_val (v_move rfl) rfl rfl ?_)
              refine g_nil ?_
              first | refine g_keep [0, 3, 4, 7, 16, 17, 18, 34, 35, 36] [] [] (keep_cons rfl (keep_cons rfl (keep_cons rfl (keep_cons rfl (keep_cons rfl (keep_cons rfl (keep_cons rfl (keep_cons rfl (keep_cons rfl (keep_cons rfl keep_nil)))))))))) lkeep_nil keep_nil rfl ?_ | refine g_keep [0, 3, 4, 7, 16, 17, 18, 34, 35, 36] [] [] rfl rfl rfl rfl ?_
              first | exact g_round _ (by omega) ⟨k + 1, av53, _, S2.set k true, by omega, rfl, rfl, rfl, rfl, ⟨by rw [hS2, ← fillB_set (fun j => seenB l (starts l i) j || on l i j) (fun j => seenB l (starts l i) j) (by omega)]; simp [hon], hownb, by rw [List.range_succ, List.filter_append, List.map_append, List.map_append, show List.filter (on l i) [k] = [k] from by simp [hon]]; rw [← hyr] at hown53; exact hown53⟩⟩ | exact g_round _ (by omega) ⟨k + 1, av7, Gm, S2, by omega, rfl, rfl, rfl, rfl, ⟨by rw [hS2]; exact fillB_same (fun j => seenB l (starts l i) j || on l i j) (fun j => seenB l (starts l i) j) (by simp [hon]), hown1, by rw [List.range_succ, List.filter_append, show List.filter (on l i) [k] = [] from by simp [hon], List.append_nil]; exact hown7⟩⟩
            · try simp only [decide_eq_true_eq, decide_eq_false_iff_not, Bool.not_eq_true', Bool.not_eq_false', Bool.not_eq_eq_eq_not, Bool.not_true, Bool.not_false, Bool.and_eq_true, Bool.or_eq_true, Bool.or_eq_false_iff, beq_iff_eq, beq_eq_false_iff_ne, ne_eq, Int.not_lt, Int.not_le, Decidable.not_not] at hc42
              have hon : on l i k = false := decide_eq_false (by omega)
              refine g_skip ?_
              refine g_block_normal ?_
              refine g_next hK19 ?_
              refine g_region ?_
              refine g_step rfl (s_val (v_add rfl rfl (by omega)) rfl rfl ?_)
              refine g_step rfl (s_val (v_move rfl) rfl rfl ?_)
              refine g_nil ?_
              first | refine g_keep [0, 3, 4, 7, 16, 17, 18, 34, 35, 36] [] [] (keep_cons rfl (keep_cons rfl (keep_cons rfl (keep_cons rfl (keep_cons rfl (keep_cons rfl (keep_cons rfl (keep_cons rfl (keep_cons rfl (keep_cons rfl keep_nil)))))))))) lkeep_nil keep_nil rfl ?_ | refine g_keep [0, 3, 4, 7, 16, 17, 18, 34, 35, 36] [] [] rfl rfl rfl rfl ?_
              first | exact g_round _ (by omega) ⟨k + 1, av53, _, S2.set k true, by omega, rfl, rfl, rfl, rfl, ⟨by rw [hS2, ← fillB_set (fun j => seenB l (starts l i) j || on l i j) (fun j => seenB l (starts l i) j) (by omega)]; simp [hon], hownb, by rw [List.range_succ, List.filter_append, List.map_append, List.map_append, show List.filter (on l i) [k] = [k] from by simp [hon]]; rw [← hyr] at hown53; exact hown53⟩⟩ | exact g_round _ (by omega) ⟨k + 1, av7, Gm, S2, by omega, rfl, rfl, rfl, rfl, ⟨by rw [hS2]; exact fillB_same (fun j => seenB l (starts l i) j || on l i j) (fun j => seenB l (starts l i) j) (by simp [hon]), hown1, by rw [List.range_succ, List.filter_append, show List.filter (on l i) [k] = [] from by simp [hon], List.append_nil]; exact hown7⟩⟩
          · try simp only [decide_eq_true_eq, decide_eq_false_iff_not, Bool.not_eq_true', Bool.not_eq_false', Bool.not_eq_eq_eq_not, Bool.not_true, Bool.not_false, Bool.and_eq_true, Bool.or_eq_true, Bool.or_eq_false_iff, beq_iff_eq, beq_eq_false_iff_ne, ne_eq, Int.not_lt, Int.not_le, Decidable.not_not] at hc37
            obtain rfl : k = l.length := by omega
            refine g_exit ?_
            refine g_then_exit ?_
            refine g_then_exit ?_
            refine g_block_same ?_
            refine g_next hK15 ?_
            refine g_region ?_
            refine g_freeze 7 rfl hown7 ?_
            refine g_step rfl (s_val (v_move rfl) rfl rfl ?_)
            refine g_step rfl (s_val (v_move rfl) rfl rfl ?_)
            refine g_step rfl (s_lit ty74 ty27 rfl rfl rfl rfl rfl rfl rfl ?_)
            refine g_step rfl (s_append (l := (((starts l i).map (islandOf l)).map encIL)) (m := ([islandOf l i].map encIL)) ty74 ty27 rfl rfl hown1 rfl rfl (by refine Even.map _ ?_ _; intro _; rfl) (by intro x hx; obtain ⟨_, _, rfl⟩ := List.mem_map.1 hx; rfl) rfl (by simp; omega) (by simp; omega) ?_)
            intro av58 G58 hown58
            refine g_step rfl (s_val (v_assign rfl) rfl rfl ?_)
            refine g_nil ?_
            refine g_block_normal ?_
            refine g_next hK10 ?_
            refine g_region ?_
            refine g_step rfl (s_val (v_add rfl rfl (by omega)) rfl rfl ?_)
            refine g_step rfl (s_val (v_move rfl) rfl rfl ?_)
            refine g_nil ?_
            first | refine g_keep [0, 3, 4, 16, 17, 18] [] [] (keep_cons rfl (keep_cons rfl (keep_cons rfl (keep_cons rfl (keep_cons rfl (keep_cons rfl keep_nil)))))) lkeep_nil keep_nil rfl ?_ | refine g_keep [0, 3, 4, 16, 17, 18] [] [] rfl rfl rfl rfl ?_
            first | exact g_round _ (by omega) ⟨i + 1, av58, S2, by omega, rfl, rfl, rfl, rfl, ⟨by rw [starts_yes hx hcx hsx, hS2]; exact range_congr fun j hj => by rw [seen_app]; simp only [hj, ↓reduceIte], by rw [starts_yes hx hcx hsx, List.map_append, List.map_append]; exact hown58⟩⟩ | exact g_round _ (by omega) ⟨i + 1, av, S, by omega, rfl, rfl, rfl, rfl, ⟨by rw [starts_no hx (by simp_all)]; exact hS, by rw [starts_no hx (by simp_all)]; exact hown⟩⟩
    · try simp only [decide_eq_true_eq, decide_eq_false_iff_not, Bool.not_eq_true', Bool.not_eq_false', Bool.not_eq_eq_eq_not, Bool.not_true, Bool.not_false, Bool.and_eq_true, Bool.or_eq_true, Bool.or_eq_false_iff, beq_iff_eq, beq_eq_false_iff_ne, ne_eq, Int.not_lt, Int.not_le, Decidable.not_not] at hc19
      obtain rfl : i = l.length := by omega
      refine g_exit ?_
      refine g_then_exit ?_
      refine g_then_exit ?_
      refine g_block_same ?_
      refine g_next hK6 ?_
      refine g_seq (fun K23 hK23 => ?_)
      refine g_region ?_
      refine g_freeze 3 rfl hown ?_
      refine g_step rfl (s_val (v_move rfl) rfl rfl ?_)
      refine g_step rfl (s_val (v_assign rfl) rfl rfl ?_)
      refine g_nil ?_
      refine g_next hK23 ?_
      refine g_ret ?_
      refine g_end1 (.inl rfl) Try.results45 (.tmp rfl) [] (ASub.refl _) (AHeap.sub_set (AHeap.sub_refl _) hr15) (fun p hp => by cases hp) ⟨rfl, ?_⟩
      first | (rw [islandsL, if_pos hc12]; done) | (rw [islandsL, if_pos hc12]; rfl)

theorem awake47_ok (G : AHeap) : PCalls Try.prog 41 [] G (fun v => v = .bool true) := by
  refine LCalls.intro 67 fi41 rfl Try.ntmps41 rfl (fun _ h => h.elim) (fun H hH w0 hw0 => ?_)
  refine g_seq (fun K0 hK0 => ?_)
  refine g_region ?_
  refine g_step rfl (s_val (v_assign rfl) rfl rfl ?_)
  refine g_nil ?_
  refine g_next hK0 ?_
  refine g_seq (fun K1 hK1 => ?_)
  refine g_region ?_
  refine g_step rfl (s_val (v_sub (b := (encSp ⟨1, 1⟩)) (v_build (vs := [(0, _), (1, _)]) (zs := [(.int .i64 0), (.int .i64 0)]) (cells := [_, _]) ty24 pl24 rfl rfl rfl) (ASub.of_wk rfl)) rfl rfl ?_)
  refine g_step rfl (s_val (v_sub (b := (encR ⟨1, 0, 0, ⟨1, 1⟩, false, []⟩)) (v_build (vs := [(0, _), (3, _)]) (zs := [(.int .i64 0), (.int .i64 0), (.int .i64 0), (.int .i64 0), (.int .i64 0), (.bool false), .nil0]) (cells := [_, _, _, _, _, _, _]) ty32 pl32 rfl rfl rfl) (ASub.of_wk rfl)) rfl rfl ?_)
  refine g_step rfl (s_val (v_sub (b := (encSp ⟨1, 2⟩)) (v_build (vs := [(0, _), (1, _)]) (zs := [(.int .i64 0), (.int .i64 0)]) (cells := [_, _]) ty24 pl24 rfl rfl rfl) (ASub.of_wk rfl)) rfl rfl ?_)
  refine g_step rfl (s_val (v_sub (b := (encR ⟨2, 0, 0, ⟨1, 2⟩, false, []⟩)) (v_build (vs := [(0, _), (3, _)]) (zs := [(.int .i64 0), (.int .i64 0), (.int .i64 0), (.int .i64 0), (.int .i64 0), (.bool false), .nil0]) (cells := [_, _, _, _, _, _, _]) ty32 pl32 rfl rfl rfl) (ASub.of_wk rfl)) rfl rfl ?_)
  refine g_step rfl (s_val (v_sub (b := (encSp ⟨2, 3⟩)) (v_build (vs := [(0, _), (1, _)]) (zs := [(.int .i64 0), (.int .i64 0)]) (cells := [_, _]) ty24 pl24 rfl rfl rfl) (ASub.of_wk rfl)) rfl rfl ?_)
  refine g_step rfl (s_val (v_sub (b := (encR ⟨3, 0, 0, ⟨2, 3⟩, false, []⟩)) (v_build (vs := [(0, _), (3, _)]) (zs := [(.int .i64 0), (.int .i64 0), (.int .i64 0), (.int .i64 0), (.int .i64 0), (.bool false), .nil0]) (cells := [_, _, _, _, _, _, _]) ty32 pl32 rfl rfl rfl) (ASub.of_wk rfl)) rfl rfl ?_)
  refine g_step rfl (s_lit ty22 ty32 rfl rfl rfl rfl rfl rfl rfl ?_)
  refine g_step rfl (s_val (v_assign rfl) rfl rfl ?_)
  refine g_nil ?_
  refine g_next hK1 ?_
  refine g_seq (fun K2 hK2 => ?_)
  refine g_region ?_
  refine g_step rfl (s_val (v_move rfl) rfl rfl ?_)
  refine g_step rfl (s_callp rfl rfl rfl (Path_ok [⟨1, 0, 0, ⟨1, 1⟩, false, []⟩, ⟨2, 0, 0, ⟨1, 2⟩, false, []⟩, ⟨3, 0, 0, ⟨2, 3⟩, false, []⟩] 1 3 _ (by simp) (by simp [Small, bsize])) ?_)
  rintro _ rfl
  rw [show pathR ([⟨1, 0, 0, ⟨1, 1⟩, false, []⟩, ⟨2, 0, 0, ⟨1, 2⟩, false, []⟩, ⟨3, 0, 0, ⟨2, 3⟩, false, []⟩] : List Rc) 1 3 1 = ([⟨2, 1⟩, ⟨3, 2⟩], true) from by decide]
  refine g_step rfl (s_val (v_move rfl) rfl rfl ?_)
  refine g_step rfl (s_val (v_extract rfl rfl) rfl rfl ?_)
  refine g_step rfl (s_val (v_extract rfl rfl) rfl rfl ?_)
  refine g_step rfl (s_val (v_assign rfl) rfl rfl ?_)
  refine g_step rfl (s_val (v_assign rfl) rfl rfl ?_)
  refine g_nil ?_
  refine g_next hK2 ?_
  refine g_seq (fun K3 hK3 => ?_)
  refine g_region ?_
  refine g_step rfl (s_val (v_move rfl) rfl rfl ?_)
  refine g_step rfl (s_callp rfl rfl rfl (Whole_ok [⟨1, 0, 0, ⟨1, 1⟩, false, []⟩, ⟨2, 0, 0, ⟨1, 2⟩, false, []⟩, ⟨3, 0, 0, ⟨2, 3⟩, false, []⟩] 1 3 _ (by simp) (by simp [Small, bsize])) ?_)
  rintro _ rfl
  rw [show pathR ([⟨1, 0, 0, ⟨1, 1⟩, false, []⟩, ⟨2, 0, 0, ⟨1, 2⟩, false, []⟩, ⟨3, 0, 0, ⟨2, 3⟩, false, []⟩] : List Rc) 1 3 2 = ([], false) from by decide]
  refine g_step rfl (s_val (v_move rfl) rfl rfl ?_)
  refine g_step rfl (s_val (v_extract rfl rfl) rfl rfl ?_)
  refine g_step rfl (s_val (v_extract rfl rfl) rfl rfl ?_)
  refine g_step rfl (s_val (v_assign rfl) rfl rfl ?_)
  refine g_step rfl (s_val (v_assign rfl) rfl rfl ?_)
  refine g_nil ?_
  refine g_next hK3 ?_
  refine g_seq (fun K4 hK4 => ?_)
  refine g_region ?_
  refine g_step rfl (s_val (v_move rfl) rfl rfl ?_)
  refine g_step rfl (s_val (v_move rfl) rfl rfl ?_)
  refine g_split 24 rfl (fun hg24 => ?_) (fun hg24 => ?_)
  · try simp only [decide_eq_true_eq, decide_eq_false_iff_not, Bool.not_eq_true', Bool.not_eq_false', Bool.not_eq_eq_eq_not, Bool.not_true, Bool.not_false, Bool.and_eq_true, Bool.or_eq_true, Bool.or_eq_false_iff, beq_iff_eq, beq_eq_false_iff_ne, ne_eq, Int.not_lt, Int.not_le, Decidable.not_not] at hg24
    refine g_step_yes (j := 1) (t := 24) rfl rfl rfl rfl (s_val (v_move rfl) rfl rfl ?_)
    refine g_step_yes (j := 1) (t := 24) rfl rfl rfl rfl (s_val (v_len ty69 rfl (by first | rfl | assumption) (by first | exact List.length_map .. | rfl)) rfl rfl ?_)
    refine g_step_yes (j := 1) (t := 24) rfl rfl rfl rfl (s_val (v_eql rfl rfl) rfl rfl ?_)
    refine g_step rfl (s_val (v_pick_t rfl rfl) rfl rfl ?_)
    refine g_step rfl (s_val (v_move rfl) rfl rfl ?_)
    refine g_split 29 rfl (fun hg29 => ?_) (fun hg29 => ?_)
    · try simp only [decide_eq_true_eq, decide_eq_false_iff_not, Bool.not_eq_true', Bool.not_eq_false', Bool.not_eq_eq_eq_not, Bool.not_true, Bool.not_false, Bool.and_eq_true, Bool.or_eq_true, Bool.or_eq_false_iff, beq_iff_eq, beq_eq_false_iff_ne, ne_eq, Int.not_lt, Int.not_le, Decidable.not_not] at hg29
      refine g_step_yes (j := 6) (t := 29) rfl rfl rfl rfl (s_val (v_move rfl) rfl rfl ?_)
      refine g_step_yes (j := 6) (t := 29) rfl rfl rfl rfl (s_val (v_indexAddr ty69 ty81 rfl rfl (by first | rfl | assumption) (by first | rfl | exact (rfl : (0 : Int) = ((0 : Nat) : Int)) | exact (Int.toNat_of_nonneg (by omega)).symm) (by first | assumption | exact map_get (by assumption) | rfl) rfl) rfl rfl ?_)
      refine g_step_yes (j := 6) (t := 29) rfl rfl rfl rfl (s_val (by first | exact v_fieldAddr ty81 fo81_0 ty3 rfl | exact v_fieldAddr_box ty81 fo81_0 ty3 rfl) rfl rfl ?_)
      refine g_step_yes (j := 6) (t := 29) rfl rfl rfl rfl (s_val (by first | exact v_load ty3 rfl rfl (by first | rfl | assumption) (by first | assumption | exact map_get (by assumption) | rfl) rfl | exact v_load_box ty3 rfl rfl (by assumption) rfl) rfl rfl ?_)
      refine g_step_yes (j := 6) (t := 29) rfl rfl rfl rfl (s_val (v_eql rfl rfl) rfl rfl ?_)
      refine g_step rfl (s_val (v_pick_t rfl rfl) rfl rfl ?_)
      refine g_step rfl (s_val (v_move rfl) rfl rfl ?_)
      refine g_split 36 rfl (fun hg36 => ?_) (fun hg36 => ?_)
      · try simp only [decide_eq_true_eq, decide_eq_false_iff_not, Bool.not_eq_true', Bool.not_eq_false', Bool.not_eq_eq_eq_not, Bool.not_true, Bool.not_false, Bool.and_eq_true, Bool.or_eq_true, Bool.or_eq_false_iff, beq_iff_eq, beq_eq_false_iff_ne, ne_eq, Int.not_lt, Int.not_le, Decidable.not_not] at hg36
        refine g_step_yes (j := 13) (t := 36) rfl rfl rfl rfl (s_val (v_move rfl) rfl rfl ?_)
        refine g_step_yes (j := 13) (t := 36) rfl rfl rfl rfl (s_val (v_indexAddr ty69 ty81 rfl rfl (by first | rfl | assumption) (by first | rfl | exact (rfl : (0 : Int) = ((0 : Nat) : Int)) | exact (Int.toNat_of_nonneg (by omega)).symm) (by first | assumption | exact map_get (by assumption) | rfl) rfl) rfl rfl ?_)
        refine g_step_yes (j := 13) (t := 36) rfl rfl rfl rfl (s_val (by first | exact v_fieldAddr ty81 fo81_1 ty3 rfl | exact v_fieldAddr_box ty81 fo81_1 ty3 rfl) rfl rfl ?_)
        refine g_step_yes (j := 13) (t := 36) rfl rfl rfl rfl (s_val (by first | exact v_load ty3 rfl rfl (by first | rfl | assumption) (by first | assumption | exact map_get (by assumption) | rfl) rfl | exact v_load_box ty3 rfl rfl (by assumption) rfl) rfl rfl ?_)
        refine g_step_yes (j := 13) (t := 36) rfl rfl rfl rfl (s_val (v_eql rfl rfl) rfl rfl ?_)
        refine g_step rfl (s_val (v_pick_t rfl rfl) rfl rfl ?_)
        refine g_step rfl (s_val (v_move rfl) rfl rfl ?_)
        refine g_split 43 rfl (fun hg43 => ?_) (fun hg43 => ?_)
        · try simp only [decide_eq_true_eq, decide_eq_false_iff_not, Bool.not_eq_true', Bool.not_eq_false', Bool.not_eq_eq_eq_not, Bool.not_true, Bool.not_false, Bool.and_eq_true, Bool.or_eq_true, Bool.or_eq_false_iff, beq_iff_eq, beq_eq_false_iff_ne, ne_eq, Int.not_lt, Int.not_le, Decidable.not_not] at hg43
          refine g_step_yes (j := 20) (t := 43) rfl rfl rfl rfl (s_val (v_move rfl) rfl rfl ?_)
          refine g_step_yes (j := 20) (t := 43) rfl rfl rfl rfl (s_val (v_indexAddr ty69 ty81 rfl rfl (by first | rfl | assumption) (by first | rfl | exact (rfl : (0 : Int) = ((0 : Nat) : Int)) | exact (Int.toNat_of_nonneg (by omega)).symm) (by first | assumption | exact map_get (by assumption) | rfl) rfl) rfl rfl ?_)
          refine g_step_yes (j := 20) (t := 43) rfl rfl rfl rfl (s_val (by first | exact v_fieldAddr ty81 fo81_0 ty3 rfl | exact v_fieldAddr_box ty81 fo81_0 ty3 rfl) rfl rfl ?_)
          refine g_step_yes (j := 20) (t := 43) rfl rfl rfl rfl (s_val (by first | exact v_load ty3 rfl rfl (by first | rfl | assumption) (by first | assumption | exact map_get (by assumption) | rfl) rfl | exact v_load_box ty3 rfl rfl (by assumption) rfl) rfl rfl ?_)
          refine g_step_yes (j := 20) (t := 43) rfl rfl rfl rfl (s_val (v_eql rfl rfl) rfl rfl ?_)
          refine g_step rfl (s_val (v_pick_t rfl rfl) rfl rfl ?_)
          refine g_step rfl (s_val (v_move rfl) rfl rfl ?_)
          refine g_split 50 rfl (fun hg50 => ?_) (fun hg50 => ?_)
          · try simp only [decide_eq_true_eq, decide_eq_false_iff_not, Bool.not_eq_true', Bool.not_eq_false', Bool.not_eq_eq_eq_not, Bool.not_true, Bool.not_false, Bool.and_eq_true, Bool.or_eq_true, Bool.or_eq_false_iff, beq_iff_eq, beq_eq_false_iff_ne, ne_eq, Int.not_lt, Int.not_le, Decidable.not_not] at hg50
            refine g_step_yes (j := 27) (t := 50) rfl rfl rfl rfl (s_val (v_move rfl) rfl rfl ?_)
            refine g_step_yes (j := 27) (t := 50) rfl rfl rfl rfl (s_val (v_indexAddr ty69 ty81 rfl rfl (by first | rfl | assumption) (by first | rfl | exact (rfl : (0 : Int) = ((0 : Nat) : Int)) | exact (Int.toNat_of_nonneg (by omega)).symm) (by first | assumption | exact map_get (by assumption) | rfl) rfl) rfl rfl ?_)
            refine g_step_yes (j := 27) (t := 50) rfl rfl rfl rfl (s_val (by first | exact v_fieldAddr ty81 fo81_1 ty3 rfl | exact v_fieldAddr_box ty81 fo81_1 ty3 rfl) rfl rfl ?_)
            refine g_step_yes (j := 27) (t := 50) rfl rfl rfl rfl (s_val (by first | exact v_load ty3 rfl rfl (by first | rfl | assumption) (by first | assumption | exact map_get (by assumption) | rfl) rfl | exact v_load_box ty3 rfl rfl (by assumption) rfl) rfl rfl ?_)
            refine g_step_yes (j := 27) (t := 50) rfl rfl rfl rfl (s_val (v_eql rfl rfl) rfl rfl ?_)
            refine g_step rfl (s_val (v_pick_t rfl rfl) rfl rfl ?_)
            refine g_step rfl (s_val (v_move rfl) rfl rfl ?_)
            refine g_split 57 rfl (fun hg57 => ?_) (fun hg57 => ?_)
            · try simp only [decide_eq_true_eq, decide_eq_false_iff_not, Bool.not_eq_true', Bool.not_eq_false', Bool.not_eq_eq_eq_not, Bool.not_true, Bool.not_false, Bool.and_eq_true, Bool.or_eq_true, Bool.or_eq_false_iff, beq_iff_eq, beq_eq_false_iff_ne, ne_eq, Int.not_lt, Int.not_le, Decidable.not_not] at hg57
              refine g_step_yes (j := 34) (t := 57) rfl rfl rfl rfl (s_val (v_move rfl) rfl rfl ?_)
              refine g_step_yes (j := 34) (t := 57) rfl rfl rfl rfl (s_val (v_not rfl) rfl rfl ?_)
              refine g_step rfl (s_val (v_pick_t rfl rfl) rfl rfl ?_)
              refine g_step rfl (s_val (v_move rfl) rfl rfl ?_)
              refine g_split 61 rfl (fun hg61 => ?_) (fun hg61 => ?_)
              · try simp only [decide_eq_true_eq, decide_eq_false_iff_not, Bool.not_eq_true', Bool.not_eq_false', Bool.not_eq_eq_eq_not, Bool.not_true, Bool.not_false, Bool.and_eq_true, Bool.or_eq_true, Bool.or_eq_false_iff, beq_iff_eq, beq_eq_false_iff_ne, ne_eq, Int.not_lt, Int.not_le, Decidable.not_not] at hg61
                refine g_step_yes (j := 38) (t := 61) rfl rfl rfl rfl (s_val (v_move rfl) rfl rfl ?_)
                refine g_step_yes (j := 38) (t := 61) rfl rfl rfl rfl (s_callp rfl rfl rfl (islands_ok [⟨1, 0, 0, ⟨1, 1⟩, false, []⟩, ⟨2, 0, 0, ⟨1, 2⟩, false, []⟩, ⟨3, 0, 0, ⟨2, 3⟩, false, []⟩] _ (by simp) (by simp [Small, bsize])) ?_)
                rintro _ rfl
                rw [show islandsL ([⟨1, 0, 0, ⟨1, 1⟩, false, []⟩, ⟨2, 0, 0, ⟨1, 2⟩, false, []⟩, ⟨3, 0, 0, ⟨2, 3⟩, false, []⟩] : List Rc) = [[1, 2, 3]] from by decide]
                refine g_step_yes (j := 38) (t := 61) rfl rfl rfl rfl (s_val (v_len ty74 rfl (by first | rfl | assumption) (by first | exact List.length_map .. | rfl)) rfl rfl ?_)
                refine g_step_yes (j := 38) (t := 61) rfl rfl rfl rfl (s_val (v_eql rfl rfl) rfl rfl ?_)
                refine g_step rfl (s_val (v_pick_t rfl rfl) rfl rfl ?_)
                refine g_step rfl (s_val (v_assign rfl) rfl rfl ?_)
                refine g_nil ?_
                refine g_next hK4 ?_
                first | refine g_keep [0] [] [] (keep_cons rfl keep_nil) lkeep_nil keep_nil rfl ?_ | refine g_keep [0] [] [] rfl rfl rfl rfl ?_
                refine g_ret ?_
                refine g_end1 (.inl rfl) Try.results41 (.tmp rfl) [] (ASub.refl _) (AHeap.sub_refl _) (fun p hp => by cases hp) ⟨rfl, ?_⟩
                rfl
              · exfalso; (try simp only [decide_eq_true_eq, decide_eq_false_iff_not, Bool.not_eq_true', Bool.not_eq_false', Bool.not_eq_eq_eq_not, Bool.not_true, Bool.not_false, Bool.and_eq_true, Bool.or_eq_true, Bool.or_eq_false_iff, beq_iff_eq, beq_eq_false_iff_ne, ne_eq, Int.not_lt, Int.not_le, Decidable.not_not] at hg61); revert hg61; decide
            · exfalso; (try simp only [decide_eq_true_eq, decide_eq_false_iff_not, Bool.not_eq_true', Bool.not_eq_false', Bool.not_eq_eq_eq_not, Bool.not_true, Bool.not_false, Bool.and_eq_true, Bool.or_eq_true, Bool.or_eq_false_iff, beq_iff_eq, beq_eq_false_iff_ne, ne_eq, Int.not_lt, Int.not_le, Decidable.not_not] at hg57); revert hg57; decide
          · exfalso; (try simp only [decide_eq_true_eq, decide_eq_false_iff_not, Bool.not_eq_true', Bool.not_eq_false', Bool.not_eq_eq_eq_not, Bool.not_true, Bool.not_false, Bool.and_eq_true, Bool.or_eq_true, Bool.or_eq_false_iff, beq_iff_eq, beq_eq_false_iff_ne, ne_eq, Int.not_lt, Int.not_le, Decidable.not_not] at hg50); revert hg50; decide
        · exfalso; (try simp only [decide_eq_true_eq, decide_eq_false_iff_not, Bool.not_eq_true', Bool.not_eq_false', Bool.not_eq_eq_eq_not, Bool.not_true, Bool.not_false, Bool.and_eq_true, Bool.or_eq_true, Bool.or_eq_false_iff, beq_iff_eq, beq_eq_false_iff_ne, ne_eq, Int.not_lt, Int.not_le, Decidable.not_not] at hg43); revert hg43; decide
      · exfalso; (try simp only [decide_eq_true_eq, decide_eq_false_iff_not, Bool.not_eq_true', Bool.not_eq_false', Bool.not_eq_eq_eq_not, Bool.not_true, Bool.not_false, Bool.and_eq_true, Bool.or_eq_true, Bool.or_eq_false_iff, beq_iff_eq, beq_eq_false_iff_ne, ne_eq, Int.not_lt, Int.not_le, Decidable.not_not] at hg36); revert hg36; decide
    · exfalso; (try simp only [decide_eq_true_eq, decide_eq_false_iff_not, Bool.not_eq_true', Bool.not_eq_false', Bool.not_eq_eq_eq_not, Bool.not_true, Bool.not_false, Bool.and_eq_true, Bool.or_eq_true, Bool.or_eq_false_iff, beq_iff_eq, beq_eq_false_iff_ne, ne_eq, Int.not_lt, Int.not_le, Decidable.not_not] at hg29); revert hg29; decide
  · exfalso; (try simp only [decide_eq_true_eq, decide_eq_false_iff_not, Bool.not_eq_true', Bool.not_eq_false', Bool.not_eq_eq_eq_not, Bool.not_true, Bool.not_false, Bool.and_eq_true, Bool.or_eq_true, Bool.or_eq_false_iff, beq_iff_eq, beq_eq_false_iff_ne, ne_eq, Int.not_lt, Int.not_le, Decidable.not_not] at hg24); revert hg24; decide

end Go.Proofs.Ytgedefcjngofkaa

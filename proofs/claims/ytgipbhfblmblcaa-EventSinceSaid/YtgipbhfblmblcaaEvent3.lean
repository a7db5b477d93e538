import Derived.Test.YtgipbhfblmblcaaEvent2
import Derived.Test.YtgipbhfblmblcaaPEvent3
set_option maxHeartbeats 8000000
set_option linter.unusedSimpArgs false
set_option linter.unusedVariables false
set_option maxRecDepth 100000
namespace Go.Proofs.Ytgipbhfblmblcaa
open Go Go.Proofs.Ytgipbhfblmblcaa.AM
theorem evName_ok (k : Int) (G : AHeap) : PCalls Try.prog 19 [.int .i64 k] G (fun v => v = .str (evName k)) := by
  refine LCalls.intro 13 fi19 rfl Try.ntmps19 rfl (fun _ h => h.elim) (fun H hH w0 hw0 => ?_)
  refine g_seq (fun K0 hK0 => ?_)
  refine g_region ?_
  refine g_step rfl (s_val (v_assign rfl) rfl rfl ?_)
  refine g_nil ?_
  refine g_next hK0 ?_
  refine g_seq (fun K1 hK1 => ?_)
  refine g_seq (fun K2 hK2 => ?_)
  refine g_region ?_
  refine g_step rfl (s_val (v_move rfl) rfl rfl ?_)
  refine g_step rfl (s_val (v_lss rfl rfl) rfl rfl ?_)
  refine g_step rfl (s_val (v_move rfl) rfl rfl ?_)
  refine g_split 5 rfl (fun hg5 => ?_) (fun hg5 => ?_)
  · try simp only [decide_eq_true_eq, decide_eq_false_iff_not, Bool.not_eq_true', Bool.not_eq_false', Bool.not_eq_eq_eq_not, Bool.not_true, Bool.not_false, Bool.and_eq_true, Bool.or_eq_true, Bool.or_eq_false_iff, beq_iff_eq, beq_eq_false_iff_ne, ne_eq, Int.not_lt, Int.not_le, Decidable.not_not] at hg5
    refine g_step_no (j := 2) (t := 5) rfl rfl rfl rfl rfl rfl rfl ?_
    refine g_step_no (j := 2) (t := 5) rfl rfl rfl rfl rfl rfl rfl ?_
    refine g_step rfl (s_val (v_pick_t rfl rfl) rfl rfl ?_)
    refine g_nil ?_
    refine g_next hK2 ?_
    refine g_cond rfl (fun _ => ?_) (fun h => by cases h)
    refine g_seq (fun K3 hK3 => ?_)
    refine g_region ?_
    refine g_step rfl (s_val (v_assign rfl) rfl rfl ?_)
    refine g_nil ?_
    refine g_next hK3 ?_
    refine g_ret ?_
    refine g_then_ret ?_
    refine g_end1 (.inl rfl) Try.results19 (.tmp rfl) [] (ASub.refl _) (AHeap.sub_refl _) (fun p hp => by cases hp) ⟨rfl, ?_⟩
    first | (rw [evName_no (by omega)]; done) | (rw [evName_no (by omega)]; rfl)
  · try simp only [decide_eq_true_eq, decide_eq_false_iff_not, Bool.not_eq_true', Bool.not_eq_false', Bool.not_eq_eq_eq_not, Bool.not_true, Bool.not_false, Bool.and_eq_true, Bool.or_eq_true, Bool.or_eq_false_iff, beq_iff_eq, beq_eq_false_iff_ne, ne_eq, Int.not_lt, Int.not_le, Decidable.not_not] at hg5
    refine g_step_yes (j := 2) (t := 5) rfl rfl rfl rfl (s_val (v_move rfl) rfl rfl ?_)
    refine g_step_yes (j := 2) (t := 5) rfl rfl rfl rfl (s_val (v_gtr rfl rfl) rfl rfl ?_)
    refine g_step rfl (s_val (v_pick_f rfl rfl) rfl rfl ?_)
    refine g_nil ?_
    refine g_next hK2 ?_
    refine g_cond rfl (fun hc8 => ?_) (fun hc8 => ?_)
    · try simp only [decide_eq_true_eq, decide_eq_false_iff_not, Bool.not_eq_true', Bool.not_eq_false', Bool.not_eq_eq_eq_not, Bool.not_true, Bool.not_false, Bool.and_eq_true, Bool.or_eq_true, Bool.or_eq_false_iff, beq_iff_eq, beq_eq_false_iff_ne, ne_eq, Int.not_lt, Int.not_le, Decidable.not_not] at hc8
      refine g_seq (fun K4 hK4 => ?_)
      refine g_region ?_
      refine g_step rfl (s_val (v_assign rfl) rfl rfl ?_)
      refine g_nil ?_
      refine g_next hK4 ?_
      refine g_ret ?_
      refine g_then_ret ?_
      refine g_end1 (.inl rfl) Try.results19 (.tmp rfl) [] (ASub.refl _) (AHeap.sub_refl _) (fun p hp => by cases hp) ⟨rfl, ?_⟩
      first | (rw [evName_no (by omega)]; done) | (rw [evName_no (by omega)]; rfl)
    · try simp only [decide_eq_true_eq, decide_eq_false_iff_not, Bool.not_eq_true', Bool.not_eq_false', Bool.not_eq_eq_eq_not, Bool.not_true, Bool.not_false, Bool.and_eq_true, Bool.or_eq_true, Bool.or_eq_false_iff, beq_iff_eq, beq_eq_false_iff_ne, ne_eq, Int.not_lt, Int.not_le, Decidable.not_not] at hc8
      refine g_skip ?_
      refine g_next hK1 ?_
      refine g_seq (fun K5 hK5 => ?_)
      refine g_region ?_
      refine g_step rfl (s_val (v_build_arr (vs := [(0, _), (1, _), (2, _), (3, _), (4, _), (5, _), (6, _), (7, _), (8, _)]) (zs := [(.str ⟨#[]⟩), (.str ⟨#[]⟩), (.str ⟨#[]⟩), (.str ⟨#[]⟩), (.str ⟨#[]⟩), (.str ⟨#[]⟩), (.str ⟨#[]⟩), (.str ⟨#[]⟩), (.str ⟨#[]⟩)]) (cells := [_, _, _, _, _, _, _, _, _]) ty104 ty9 rfl rfl rfl) rfl rfl ?_)
      refine g_step rfl (s_val (v_move rfl) rfl rfl ?_)
      refine g_step rfl (s_val (v_sub_ rfl rfl (by omega)) rfl rfl ?_)
      refine g_step rfl (s_val (v_index_arr (i := (k - 1).toNat) ty104 ty9 rfl rfl rfl rfl (by omega) (by omega) (map_get (evName_get (by omega) (by omega)))) rfl rfl ?_)
      refine g_step rfl (s_val (v_assign rfl) rfl rfl ?_)
      refine g_nil ?_
      refine g_next hK5 ?_
      refine g_ret ?_
      refine g_end1 (.inl rfl) Try.results19 (.tmp rfl) [] (ASub.refl _) (AHeap.sub_refl _) (fun p hp => by cases hp) ⟨rfl, ?_⟩
      rfl

theorem evCount_ok (l : List Ev) (k : Int) (G : AHeap) (va : AV) (hva : va.view G = some (l.map encE)) (hl : l.length ≤ 1000000) : PCalls Try.prog 20 [va, .int .i64 k] G (fun v => v = .int .i64 ((l.filter (cntE k)).length : Nat)) := by
  refine LCalls.intro 22 fi20 rfl Try.ntmps20 rfl (fun _ h => h.elim) (fun H hH w0 hw0 => ?_)
  have hva := view_sub hH hva
  refine g_seq (fun K0 hK0 => ?_)
  refine g_region ?_
  refine g_step rfl (s_val (v_assign rfl) rfl rfl ?_)
  refine g_nil ?_
  refine g_next hK0 ?_
  refine g_seq (fun K1 hK1 => ?_)
  refine g_region ?_
  refine g_step rfl (s_val (v_assign rfl) rfl rfl ?_)
  refine g_nil ?_
  refine g_next hK1 ?_
  refine g_seq (fun K2 hK2 => ?_)
  refine g_seq (fun K3 hK3 => ?_)
  refine g_region ?_
  refine g_step rfl (s_val (v_move rfl) rfl rfl ?_)
  refine g_step rfl (s_val (v_len ty25 rfl (by first | rfl | assumption) (by first | exact List.length_map .. | rfl)) rfl rfl ?_)
  refine g_step rfl (s_val (v_move rfl) rfl rfl ?_)
  refine g_nil ?_
  refine g_next hK3 ?_
  refine g_block ?_
  first | refine g_keep [1, 5, 8, 9, 10] [] [] (keep_cons rfl (keep_cons rfl (keep_cons rfl (keep_cons rfl (keep_cons rfl keep_nil))))) lkeep_nil keep_nil rfl ?_ | refine g_keep [1, 5, 8, 9, 10] [] [] rfl rfl rfl rfl ?_
  refine g_loop (fun n env L B G => ∃ (i : Nat) (u : Int), i ≤ l.length ∧ n = l.length - i ∧ env = [(1, .int .i64 k), (5, .int .i64 u), (8, va), (9, .int .i64 (l.length : Int)), (10, .int .i64 (i : Int))] ∧ L = [] ∧ B = [] ∧ H = G ∧ u = (((l.take i).filter (cntE k)).length : Nat)) (l.length) ⟨0, 0, Nat.zero_le _, rfl, rfl, rfl, rfl, rfl, rfl⟩ (fun n env L B G hI => ?_)
  obtain ⟨i, u, hi, rfl, rfl, rfl, rfl, rfl, hu⟩ := hI
  refine g_seq (fun K4 hK4 => ?_)
  refine g_region ?_
  refine g_step rfl (s_val (v_lss rfl rfl) rfl rfl ?_)
  refine g_nil ?_
  refine g_next hK4 ?_
  refine g_seq (fun K5 hK5 => ?_)
  refine g_cond rfl (fun hc11 => ?_) (fun hc11 => ?_)
  · try simp only [decide_eq_true_eq, decide_eq_false_iff_not, Bool.not_eq_true', Bool.not_eq_false', Bool.not_eq_eq_eq_not, Bool.not_true, Bool.not_false, Bool.and_eq_true, Bool.or_eq_true, Bool.or_eq_false_iff, beq_iff_eq, beq_eq_false_iff_ne, ne_eq, Int.not_lt, Int.not_le, Decidable.not_not] at hc11
    obtain ⟨x, hx⟩ := get_some (l := l) (k := i) (by omega)
    have hcl := cnt_len (p := cntE k) (l := l) (k := i)
    refine g_skip ?_
    refine g_next hK5 ?_
    refine g_seq (fun K6 hK6 => ?_)
    refine g_block ?_
    refine g_seq (fun K7 hK7 => ?_)
    refine g_region ?_
    refine g_step rfl (s_val (v_indexAddr ty25 ty37 rfl rfl (by first | rfl | assumption) (by first | rfl | exact (rfl : (0 : Int) = ((0 : Nat) : Int)) | exact (Int.toNat_of_nonneg (by omega)).symm) (by first | assumption | exact map_get (by assumption) | rfl) rfl) rfl rfl ?_)
    refine g_step rfl (s_val (by first | exact v_load_elt ty37 rfl rfl (by first | rfl | assumption) (by first | assumption | exact map_get (by assumption) | rfl) rfl rfl | exact v_load_box_all ty37 rfl rfl (by assumption) rfl rfl | exact v_load_part (cs := [_, _]) ty37 rfl rfl (by first | rfl | assumption) (by first | assumption | exact map_get (by assumption) | rfl) rfl rfl rfl | exact v_load_box_part (cs := [_, _]) ty37 rfl rfl (by assumption) rfl rfl rfl) rfl rfl ?_)
    refine g_step rfl (s_alloc (av := (.agg [(.int .i64 0), (.int .i64 0)])) ty37 rfl rfl rfl rfl ?_)
    refine g_step rfl (s_store_all ty37 rfl rfl rfl rfl rfl rfl ?_)
    refine g_nil ?_
    refine g_next hK7 ?_
    refine g_seq (fun K8 hK8 => ?_)
    refine g_region ?_
    refine g_step rfl (s_fieldAddr ty37 fo37_0 ty35 rfl rfl ?_)
    refine g_step rfl (s_val (v_loadl ty35 rfl rfl rfl rfl) rfl rfl ?_)
    refine g_step rfl (s_val (v_move rfl) rfl rfl ?_)
    refine g_step rfl (s_val (v_eql rfl rfl) rfl rfl ?_)
    refine g_nil ?_
    refine g_next hK8 ?_
    refine g_cond rfl (fun hc17 => ?_) (fun hc17 => ?_)
    · try simp only [decide_eq_true_eq, decide_eq_false_iff_not, Bool.not_eq_true', Bool.not_eq_false', Bool.not_eq_eq_eq_not, Bool.not_true, Bool.not_false, Bool.and_eq_true, Bool.or_eq_true, Bool.or_eq_false_iff, beq_iff_eq, beq_eq_false_iff_ne, ne_eq, Int.not_lt, Int.not_le, Decidable.not_not] at hc17
      refine g_region ?_
      refine g_step rfl (s_val (v_move rfl) rfl rfl ?_)
      refine g_step rfl (s_val (v_add rfl rfl (by omega)) rfl rfl ?_)
      refine g_step rfl (s_val (v_assign rfl) rfl rfl ?_)
      refine g_nil ?_
      refine g_block_normal ?_
      refine g_next hK6 ?_
      refine g_region ?_
      refine g_step rfl (s_val (v_add rfl rfl (by omega)) rfl rfl ?_)
      refine g_step rfl (s_val (v_move rfl) rfl rfl ?_)
      refine g_nil ?_
      first | refine g_keep [1, 5, 8, 9, 10] [] [] (keep_cons rfl (keep_cons rfl (keep_cons rfl (keep_cons rfl (keep_cons rfl keep_nil))))) lkeep_nil keep_nil rfl ?_ | refine g_keep [1, 5, 8, 9, 10] [] [] rfl rfl rfl rfl ?_
      first | exact g_round _ (by omega) ⟨i + 1, u + 1, by omega, rfl, rfl, rfl, rfl, rfl, by rw [filter_snoc hx, if_pos (cntE_yes (by omega)), List.length_append, hu]; rfl⟩ | exact g_round _ (by omega) ⟨i + 1, u, by omega, rfl, rfl, rfl, rfl, rfl, by rw [filter_snoc hx, cntE_no (k := k) (e := x) (by omega), if_neg (by simp), List.append_nil]; exact hu⟩
    · try simp only [decide_eq_true_eq, decide_eq_false_iff_not, Bool.not_eq_true', Bool.not_eq_false', Bool.not_eq_eq_eq_not, Bool.not_true, Bool.not_false, Bool.and_eq_true, Bool.or_eq_true, Bool.or_eq_false_iff, beq_iff_eq, beq_eq_false_iff_ne, ne_eq, Int.not_lt, Int.not_le, Decidable.not_not] at hc17
      refine g_skip ?_
      refine g_block_normal ?_
      refine g_next hK6 ?_
      refine g_region ?_
      refine g_step rfl (s_val (v_add rfl rfl (by omega)) rfl rfl ?_)
      refine g_step rfl (s_val (v_move rfl) rfl rfl ?_)
      refine g_nil ?_
      first | refine g_keep [1, 5, 8, 9, 10] [] [] (keep_cons rfl (keep_cons rfl (keep_cons rfl (keep_cons rfl (keep_cons rfl keep_nil))))) lkeep_nil keep_nil rfl ?_ | refine g_keep [1, 5, 8, 9, 10] [] [] rfl rfl rfl rfl ?_
      first | exact g_round _ (by omega) ⟨i + 1, u + 1, by omega, rfl, rfl, rfl, rfl, rfl, by rw [filter_snoc hx, if_pos (cntE_yes (by omega)), List.length_append, hu]; rfl⟩ | exact g_round _ (by omega) ⟨i + 1, u, by omega, rfl, rfl, rfl, rfl, rfl, by rw [filter_snoc hx, cntE_no (k := k) (e := x) (by omega), if_neg (by simp), List.append_nil]; exact hu⟩
  · try simp only [decide_eq_true_eq, decide_eq_false_iff_not, Bool.not_eq_true', Bool.not_eq_false', Bool.not_eq_eq_eq_not, Bool.not_true, Bool.not_false, Bool.and_eq_true, Bool.or_eq_true, Bool.or_eq_false_iff, beq_iff_eq, beq_eq_false_iff_ne, ne_eq, Int.not_lt, Int.not_le, Decidable.not_not] at hc11
    obtain rfl : i = l.length := by omega
    rw [List.take_length] at hu
    refine g_exit ?_
    refine g_then_exit ?_
    refine g_then_exit ?_
    refine g_block_same ?_
    refine g_next hK2 ?_
    refine g_seq (fun K9 hK9 => ?_)
    refine g_region ?_
    refine g_step rfl (s_val (v_move rfl) rfl rfl ?_)
    refine g_step rfl (s_val (v_assign rfl) rfl rfl ?_)
    refine g_nil ?_
    refine g_next hK9 ?_
    refine g_ret ?_
    refine g_end1 (.inl rfl) Try.results20 (.tmp rfl) [] (ASub.refl _) (AHeap.sub_refl _) (fun p hp => by cases hp) ⟨rfl, ?_⟩
    first | (rw [hu]; done) | (rw [hu]; rfl)

theorem since_ok (ls : List (List Rc)) (G : AHeap) (hln : ls.length ≤ 1000) (hll : ∀ l ∈ ls, l.length ≤ 1000) (hsm : ∀ l ∈ ls, ∀ r ∈ l, Small r.bag) : PCalls Try.prog 18 [.imm (ls.map encRs)] G (fun v => v = .tup [encEs (sinceE ls), .bool (ls.all srt)]) := by
  refine LCalls.intro 36 fi18 rfl Try.ntmps18 rfl (fun _ h => h.elim) (fun H hH w0 hw0 => ?_)
  refine g_seq (fun K0 hK0 => ?_)
  refine g_region ?_
  refine g_step rfl (s_val (v_assign rfl) rfl rfl ?_)
  refine g_step rfl (s_val (v_assign rfl) rfl rfl ?_)
  refine g_nil ?_
  refine g_next hK0 ?_
  refine g_seq (fun K1 hK1 => ?_)
  refine g_region ?_
  refine g_step rfl (s_val (v_assign rfl) rfl rfl ?_)
  refine g_nil ?_
  refine g_next hK1 ?_
  refine g_seq (fun K2 hK2 => ?_)
  refine g_seq (fun K3 hK3 => ?_)
  refine g_region ?_
  refine g_step rfl (s_val (v_move rfl) rfl rfl ?_)
  refine g_step rfl (s_val (v_len ty31 rfl (by first | rfl | assumption) (by first | exact List.length_map .. | rfl)) rfl rfl ?_)
  refine g_step rfl (s_val (v_move rfl) rfl rfl ?_)
  refine g_nil ?_
  refine g_next hK3 ?_
  refine g_block ?_
  first | refine g_keep [0, 4, 9, 10, 11] [] [] (keep_cons rfl (keep_cons rfl (keep_cons rfl (keep_cons rfl (keep_cons rfl keep_nil))))) lkeep_nil keep_nil rfl ?_ | refine g_keep [0, 4, 9, 10, 11] [] [] rfl rfl rfl rfl ?_
  refine g_loop (fun n env L B G => ∃ (k : Nat) (av : AV), k ≤ ls.length ∧ n = ls.length - k ∧ env = [(0, .imm (ls.map encRs)), (4, av), (9, .imm (ls.map encRs)), (10, .int .i64 (ls.length : Int)), (11, .int .i64 (k : Int))] ∧ L = [] ∧ B = [] ∧ Own w0.heap.size 2 H av ((sinceT ls k).map encE) G ∧ (ls.take k).all srt = true ∧ (sinceT ls k).length ≤ 8000 * k) (ls.length) ⟨0, .nil0, Nat.zero_le _, rfl, rfl, rfl, rfl, ⟨Own.nil .., rfl, by simp [sinceT]⟩⟩ (fun n env L B G hI => ?_)
  obtain ⟨k, av, hk, rfl, rfl, rfl, rfl, hown, hall, hsl⟩ := hI
  refine g_seq (fun K4 hK4 => ?_)
  refine g_region ?_
  refine g_step rfl (s_val (v_lss rfl rfl) rfl rfl ?_)
  refine g_nil ?_
  refine g_next hK4 ?_
  refine g_seq (fun K5 hK5 => ?_)
  refine g_cond rfl (fun hc12 => ?_) (fun hc12 => ?_)
  · try simp only [decide_eq_true_eq, decide_eq_false_iff_not, Bool.not_eq_true', Bool.not_eq_false', Bool.not_eq_eq_eq_not, Bool.not_true, Bool.not_false, Bool.and_eq_true, Bool.or_eq_true, Bool.or_eq_false_iff, beq_iff_eq, beq_eq_false_iff_ne, ne_eq, Int.not_lt, Int.not_le, Decidable.not_not] at hc12
    obtain ⟨l, hl⟩ := get_some (l := ls) (k := k) (by omega)
    have hll1 := hll l (mem_get hl)
    have hsm1 := hsm l (mem_get hl)
    refine g_skip ?_
    refine g_next hK5 ?_
    refine g_seq (fun K6 hK6 => ?_)
    refine g_block ?_
    refine g_seq (fun K7 hK7 => ?_)
    refine g_region ?_
    refine g_step rfl (s_val (v_move rfl) rfl rfl ?_)
    refine g_step rfl (s_val (v_indexAddr ty31 ty22 rfl rfl (by first | rfl | assumption) (by first | rfl | exact (rfl : (0 : Int) = ((0 : Nat) : Int)) | exact (Int.toNat_of_nonneg (by omega)).symm) (by first | assumption | exact map_get (by assumption) | rfl) rfl) rfl rfl ?_)
    refine g_step rfl (s_val (by first | exact v_load ty22 rfl rfl (by first | rfl | assumption) (by first | assumption | exact map_get (by assumption) | rfl) rfl | exact v_load_box ty22 rfl rfl (by assumption) rfl) rfl rfl ?_)
    refine g_step rfl (s_val (v_assign rfl) rfl rfl ?_)
    refine g_step rfl (s_val (v_assign rfl) rfl rfl ?_)
    refine g_nil ?_
    refine g_next hK7 ?_
    refine g_seq (fun K8 hK8 => ?_)
    refine g_seq (fun K9 hK9 => ?_)
    refine g_region ?_
    refine g_step rfl (s_val (v_move rfl) rfl rfl ?_)
    refine g_step rfl (s_callp rfl rfl rfl (sorted_ok l _ (by omega) hsm1) ?_)
    rintro _ rfl
    refine g_step rfl (s_val (v_not rfl) rfl rfl ?_)
    refine g_nil ?_
    refine g_next hK9 ?_
    refine g_cond rfl (fun hc18 => ?_) (fun hc18 => ?_)
    · try simp only [decide_eq_true_eq, decide_eq_false_iff_not, Bool.not_eq_true', Bool.not_eq_false', Bool.not_eq_eq_eq_not, Bool.not_true, Bool.not_false, Bool.and_eq_true, Bool.or_eq_true, Bool.or_eq_false_iff, beq_iff_eq, beq_eq_false_iff_ne, ne_eq, Int.not_lt, Int.not_le, Decidable.not_not] at hc18
      refine g_seq (fun K10 hK10 => ?_)
      refine g_region ?_
      refine g_step rfl (s_val (v_assign rfl) rfl rfl ?_)
      refine g_step rfl (s_val (v_assign rfl) rfl rfl ?_)
      refine g_nil ?_
      refine g_next hK10 ?_
      refine g_ret ?_
      refine g_then_ret ?_
      refine g_block_ret ?_
      refine g_then_ret ?_
      refine g_then_ret ?_
      refine g_block_ret ?_
      refine g_then_ret ?_
      refine g_end2 (.inl rfl) Try.results18 (.tmp rfl) (.tmp rfl) [] (ASub.tup (m := [.imm [], .bool false]) ⟨ASub.nil0, ASub.refl _, trivial⟩) (by exact hown.sub) (fun p hp => by cases hp) ⟨rfl, ?_⟩
      first | (have hno : ls.all srt = false := all_stop hl (by simpa using hc18); rw [sinceE, hno]; rfl; done) | (have hno : ls.all srt = false := all_stop hl (by simpa using hc18); rw [sinceE, hno]; rfl; rfl)
    · try simp only [decide_eq_true_eq, decide_eq_false_iff_not, Bool.not_eq_true', Bool.not_eq_false', Bool.not_eq_eq_eq_not, Bool.not_true, Bool.not_false, Bool.and_eq_true, Bool.or_eq_true, Bool.or_eq_false_iff, beq_iff_eq, beq_eq_false_iff_ne, ne_eq, Int.not_lt, Int.not_le, Decidable.not_not] at hc18
      refine g_skip ?_
      refine g_next hK8 ?_
      refine g_seq (fun K11 hK11 => ?_)
      refine g_region ?_
      have hall2 : (ls.take (k + 1)).all srt = true := by rw [all_snoc hl, hall]; simpa using hc18
      refine g_step rfl (s_val (v_move rfl) rfl rfl ?_)
      refine g_step rfl (s_val (v_gtr rfl rfl) rfl rfl ?_)
      refine g_nil ?_
      refine g_next hK11 ?_
      refine g_cond rfl (fun hc20 => ?_) (fun hc20 => ?_)
      · try simp only [decide_eq_true_eq, decide_eq_false_iff_not, Bool.not_eq_true', Bool.not_eq_false', Bool.not_eq_eq_eq_not, Bool.not_true, Bool.not_false, Bool.and_eq_true, Bool.or_eq_true, Bool.or_eq_false_iff, beq_iff_eq, beq_eq_false_iff_ne, ne_eq, Int.not_lt, Int.not_le, Decidable.not_not] at hc20
        obtain ⟨p, hp⟩ := get_some (l := ls) (k := k - 1) (by omega)
        have hpl := hll p (mem_get hp)
        have hps := hsm p (mem_get hp)
        have hev := ev_len p l
        have hsp : srt p = true ∧ srt l = true := ⟨List.all_eq_true.1 hall p (take_mem hp (by omega)), by simpa using hc18⟩
        have hevb : evB p l = evL p l := by rw [evB, hsp.1, hsp.2]; rfl
        refine g_seq (fun K12 hK12 => ?_)
        refine g_region ?_
        refine g_step rfl (s_val (v_move rfl) rfl rfl ?_)
        refine g_step rfl (s_val (v_move rfl) rfl rfl ?_)
        refine g_step rfl (s_val (v_sub_ rfl rfl (by omega)) rfl rfl ?_)
        refine g_step rfl (s_val (v_indexAddr ty31 ty22 rfl rfl (by first | rfl | assumption) (show ((k : Int) - 1) = ((k - 1 : Nat) : Int) by omega) (map_get hp) rfl) rfl rfl ?_)
        refine g_step rfl (s_val (by first | exact v_load ty22 rfl rfl (by first | rfl | assumption) (map_get hp) rfl | exact v_load_box ty22 rfl rfl (by assumption) rfl) rfl rfl ?_)
        refine g_step rfl (s_val (v_move rfl) rfl rfl ?_)
        refine g_step rfl (s_callp rfl rfl rfl (between_ok p l _ (by omega) (by omega) hps hsm1) ?_)
        rintro _ rfl
        rw [hevb]
        refine g_step rfl (s_val (v_move rfl) rfl rfl ?_)
        refine g_step rfl (s_val (v_extract rfl rfl) rfl rfl ?_)
        refine g_step rfl (s_val (v_extract rfl rfl) rfl rfl ?_)
        refine g_step rfl (s_val (v_assign rfl) rfl rfl ?_)
        refine g_step rfl (s_val (v_assign rfl) rfl rfl ?_)
        refine g_nil ?_
        refine g_next hK12 ?_
        first | refine g_keep [0, 4, 7, 9, 10, 11] [] [] (keep_cons rfl (keep_cons rfl (keep_cons rfl (keep_cons rfl (keep_cons rfl (keep_cons rfl keep_nil)))))) lkeep_nil keep_nil rfl ?_ | refine g_keep [0, 4, 7, 9, 10, 11] [] [] rfl rfl rfl rfl ?_
        refine g_region ?_
        refine g_step rfl (s_val (v_move rfl) rfl rfl ?_)
        refine g_step rfl (s_val (v_move rfl) rfl rfl ?_)
        refine g_step rfl (s_append (l := ((sinceT ls k).map encE)) (m := ((evL p l).map encE)) ty25 ty37 rfl rfl hown rfl rfl (by refine Even.map _ ?_ _; intro _; rfl) (by intro x hx; obtain ⟨_, _, rfl⟩ := List.mem_map.1 hx; rfl) rfl (by simp; omega) (by simp; omega) ?_)
        intro av33 G33 hown33
        refine g_step rfl (s_val (v_assign rfl) rfl rfl ?_)
        refine g_nil ?_
        refine g_block_normal ?_
        refine g_next hK6 ?_
        refine g_region ?_
        refine g_step rfl (s_val (v_add rfl rfl (by omega)) rfl rfl ?_)
        refine g_step rfl (s_val (v_move rfl) rfl rfl ?_)
        refine g_nil ?_
        first | refine g_keep [0, 4, 9, 10, 11] [] [] (keep_cons rfl (keep_cons rfl (keep_cons rfl (keep_cons rfl (keep_cons rfl keep_nil))))) lkeep_nil keep_nil rfl ?_ | refine g_keep [0, 4, 9, 10, 11] [] [] rfl rfl rfl rfl ?_
        first | exact g_round _ (by omega) ⟨k + 1, _, by omega, rfl, rfl, rfl, rfl, ⟨by rw [since_step (by omega) hp hl, List.map_append]; exact hown33, hall2, by rw [since_step (by omega) hp hl, List.length_append]; omega⟩⟩ | exact g_round _ (by omega) ⟨k + 1, _, by omega, rfl, rfl, rfl, rfl, ⟨by rw [since_first (by omega)]; exact hown, hall2, by rw [since_first (by omega)]; omega⟩⟩
      · try simp only [decide_eq_true_eq, decide_eq_false_iff_not, Bool.not_eq_true', Bool.not_eq_false', Bool.not_eq_eq_eq_not, Bool.not_true, Bool.not_false, Bool.and_eq_true, Bool.or_eq_true, Bool.or_eq_false_iff, beq_iff_eq, beq_eq_false_iff_ne, ne_eq, Int.not_lt, Int.not_le, Decidable.not_not] at hc20
        refine g_skip ?_
        refine g_block_normal ?_
        refine g_next hK6 ?_
        refine g_region ?_
        refine g_step rfl (s_val (v_add rfl rfl (by omega)) rfl rfl ?_)
        refine g_step rfl (s_val (v_move rfl) rfl rfl ?_)
        refine g_nil ?_
        first | refine g_keep [0, 4, 9, 10, 11] [] [] (keep_cons rfl (keep_cons rfl (keep_cons rfl (keep_cons rfl (keep_cons rfl keep_nil))))) lkeep_nil keep_nil rfl ?_ | refine g_keep [0, 4, 9, 10, 11] [] [] rfl rfl rfl rfl ?_
        first | exact g_round _ (by omega) ⟨k + 1, _, by omega, rfl, rfl, rfl, rfl, ⟨by rw [since_step (by omega) hp hl, List.map_append]; exact hown33, hall2, by rw [since_step (by omega) hp hl, List.length_append]; omega⟩⟩ | exact g_round _ (by omega) ⟨k + 1, _, by omega, rfl, rfl, rfl, rfl, ⟨by rw [since_first (by omega)]; exact hown, hall2, by rw [since_first (by omega)]; omega⟩⟩
  · try simp only [decide_eq_true_eq, decide_eq_false_iff_not, Bool.not_eq_true', Bool.not_eq_false', Bool.not_eq_eq_eq_not, Bool.not_true, Bool.not_false, Bool.and_eq_true, Bool.or_eq_true, Bool.or_eq_false_iff, beq_iff_eq, beq_eq_false_iff_ne, ne_eq, Int.not_lt, Int.not_le, Decidable.not_not] at hc12
    obtain rfl : k = ls.length := by omega
    rw [List.take_length] at hall
    refine g_freeze 4 rfl hown ?_
    refine g_exit ?_
    refine g_then_exit ?_
    refine g_then_exit ?_
    refine g_block_same ?_
    refine g_next hK2 ?_
    refine g_seq (fun K13 hK13 => ?_)
    refine g_region ?_
    refine g_step rfl (s_val (v_move rfl) rfl rfl ?_)
    refine g_step rfl (s_val (v_assign rfl) rfl rfl ?_)
    refine g_step rfl (s_val (v_assign rfl) rfl rfl ?_)
    refine g_nil ?_
    refine g_next hK13 ?_
    refine g_ret ?_
    refine g_end2 (.inl rfl) Try.results18 (.tmp rfl) (.tmp rfl) [] (ASub.refl _) (AHeap.sub_refl _) (fun p hp => by cases hp) ⟨rfl, ?_⟩
    first | (rw [sinceE, hall]; rfl; done) | (rw [sinceE, hall]; rfl; rfl)

theorem eventSince_ok (ls : List (List Rc)) (k : Int) (hh : ∀ l ∈ ls, ∀ r ∈ l, Held r.bag) (hlen : ∀ l ∈ ls, l.length ≤ 140737488351232) (hln0 : ls.length ≤ 140737488351232) (G : AHeap) : PCalls Try.prog 4 [.imm (ls.map encRs), .int .i64 k] G (fun v => v = .bool true) := by
  refine LCalls.intro 126 fi4 rfl Try.ntmps4 rfl (fun _ h => h.elim) (fun H hH w0 hw0 => ?_)
  refine g_seq (fun K0 hK0 => ?_)
  refine g_region ?_
  refine g_step rfl (s_val (v_assign rfl) rfl rfl ?_)
  refine g_nil ?_
  refine g_next hK0 ?_
  refine g_seq (fun K1 hK1 => ?_)
  refine g_seq (fun K2 hK2 => ?_)
  refine g_region ?_
  refine g_step rfl (s_val (v_move rfl) rfl rfl ?_)
  refine g_step rfl (s_val (v_len ty31 rfl (by first | rfl | assumption) (by first | exact List.length_map .. | rfl)) rfl rfl ?_)
  refine g_step rfl (s_val (v_gtr rfl rfl) rfl rfl ?_)
  refine g_nil ?_
  refine g_next hK2 ?_
  refine g_cond rfl (fun hc16 => ?_) (fun hc16 => ?_)
  · try simp only [decide_eq_true_eq, decide_eq_false_iff_not, Bool.not_eq_true', Bool.not_eq_false', Bool.not_eq_eq_eq_not, Bool.not_true, Bool.not_false, Bool.and_eq_true, Bool.or_eq_true, Bool.or_eq_false_iff, beq_iff_eq, beq_eq_false_iff_ne, ne_eq, Int.not_lt, Int.not_le, Decidable.not_not] at hc16
    refine g_seq (fun K3 hK3 => ?_)
    refine g_region ?_
    refine g_step rfl (s_callp rfl rfl rfl (awake44_ok _) ?_)
    rintro _ rfl
    refine g_step rfl (s_val (v_assign rfl) rfl rfl ?_)
    refine g_nil ?_
    refine g_next hK3 ?_
    refine g_ret ?_
    refine g_then_ret ?_
    refine g_end1 (.inl rfl) Try.results4 (.tmp rfl) [] (ASub.refl _) (by first | exact AHeap.sub_refl _ | exact hown.sub) (fun p hp => by cases hp) ⟨rfl, ?_⟩
    rfl
  · try simp only [decide_eq_true_eq, decide_eq_false_iff_not, Bool.not_eq_true', Bool.not_eq_false', Bool.not_eq_eq_eq_not, Bool.not_true, Bool.not_false, Bool.and_eq_true, Bool.or_eq_true, Bool.or_eq_false_iff, beq_iff_eq, beq_eq_false_iff_ne, ne_eq, Int.not_lt, Int.not_le, Decidable.not_not] at hc16
    refine g_skip ?_
    refine g_next hK1 ?_
    refine g_seq (fun K4 hK4 => ?_)
    refine g_region ?_
    refine g_step rfl (s_val (v_assign rfl) rfl rfl ?_)
    refine g_nil ?_
    refine g_next hK4 ?_
    refine g_seq (fun K5 hK5 => ?_)
    refine g_region ?_
    refine g_step rfl (s_val (v_assign rfl) rfl rfl ?_)
    refine g_nil ?_
    refine g_next hK5 ?_
    refine g_seq (fun K6 hK6 => ?_)
    refine g_seq (fun K7 hK7 => ?_)
    refine g_region ?_
    refine g_step rfl (s_val (v_assign rfl) rfl rfl ?_)
    refine g_nil ?_
    refine g_next hK7 ?_
    refine g_block ?_
    first | refine g_keep [0, 1, 5, 6, 7] [] [] (keep_cons rfl (keep_cons rfl (keep_cons rfl (keep_cons rfl (keep_cons rfl keep_nil))))) lkeep_nil keep_nil rfl ?_ | refine g_keep [0, 1, 5, 6, 7] [] [] rfl rfl rfl rfl ?_
    refine g_loop (fun n env L B G => ∃ (i : Nat) (av : AV) (acc : List Ev) (u : Bool), i ≤ ls.length ∧ n = ls.length - i ∧ env = [(0, .imm (ls.map encRs)), (1, .int .i64 k), (5, av), (6, .bool u), (7, .int .i64 (i : Int))] ∧ L = [] ∧ B = [] ∧ Own w0.heap.size 2 H av ((acc).map encE) G ∧ u = (ls.take i).all srt ∧ (u = true → acc = sinceT ls i) ∧ acc.length ≤ 160 * i ∧ (ls.take i).all fewL = true) (ls.length) ⟨0, .nil0, [], true, Nat.zero_le _, rfl, rfl, rfl, rfl, ⟨Own.nil .., rfl, fun _ => rfl, by simp, rfl⟩⟩ (fun n env L B G hI => ?_)
    obtain ⟨i, av, acc, u, hi, rfl, rfl, rfl, rfl, hown, hu, hacc, hal, hf⟩ := hI
    refine g_seq (fun K8 hK8 => ?_)
    refine g_seq (fun K9 hK9 => ?_)
    refine g_region ?_
    refine g_step rfl (s_val (v_move rfl) rfl rfl ?_)
    refine g_step rfl (s_val (v_move rfl) rfl rfl ?_)
    refine g_step rfl (s_val (v_len ty31 rfl (by first | rfl | assumption) (by first | exact List.length_map .. | rfl)) rfl rfl ?_)
    refine g_step rfl (s_val (v_lss rfl rfl) rfl rfl ?_)
    refine g_nil ?_
    refine g_next hK9 ?_
    refine g_cond rfl (fun hc21 => ?_) (fun hc21 => ?_)
    · try simp only [decide_eq_true_eq, decide_eq_false_iff_not, Bool.not_eq_true', Bool.not_eq_false', Bool.not_eq_eq_eq_not, Bool.not_true, Bool.not_false, Bool.and_eq_true, Bool.or_eq_true, Bool.or_eq_false_iff, beq_iff_eq, beq_eq_false_iff_ne, ne_eq, Int.not_lt, Int.not_le, Decidable.not_not] at hc21
      obtain ⟨l, hl⟩ := get_some (l := ls) (k := i) (by omega)
      have hhl := hh l (mem_get hl)
      have hlenl := hlen l (mem_get hl)
      refine g_skip ?_
      refine g_next hK8 ?_
      refine g_seq (fun K10 hK10 => ?_)
      refine g_block ?_
      refine g_seq (fun K11 hK11 => ?_)
      refine g_seq (fun K12 hK12 => ?_)
      refine g_region ?_
      refine g_step rfl (s_val (v_move rfl) rfl rfl ?_)
      refine g_step rfl (s_val (v_move rfl) rfl rfl ?_)
      refine g_step rfl (s_val (v_indexAddr ty31 ty22 rfl rfl (by first | rfl | assumption) (by first | rfl | exact (rfl : (0 : Int) = ((0 : Nat) : Int)) | exact (Int.toNat_of_nonneg (by omega)).symm) (map_get hl) rfl) rfl rfl ?_)
      refine g_step rfl (s_val (by first | exact v_load ty22 rfl rfl (by first | rfl | assumption) (map_get hl) rfl | exact v_load_box ty22 rfl rfl (by assumption) rfl) rfl rfl ?_)
      refine g_step rfl (s_callp rfl rfl rfl (fewL_ok l _ _ rfl hhl hlenl) ?_)
      rintro _ rfl
      refine g_step rfl (s_val (v_not rfl) rfl rfl ?_)
      refine g_nil ?_
      refine g_next hK12 ?_
      refine g_cond rfl (fun hc29 => ?_) (fun hc29 => ?_)
      · try simp only [decide_eq_true_eq, decide_eq_false_iff_not, Bool.not_eq_true', Bool.not_eq_false', Bool.not_eq_eq_eq_not, Bool.not_true, Bool.not_false, Bool.and_eq_true, Bool.or_eq_true, Bool.or_eq_false_iff, beq_iff_eq, beq_eq_false_iff_ne, ne_eq, Int.not_lt, Int.not_le, Decidable.not_not] at hc29
        refine g_seq (fun K13 hK13 => ?_)
        refine g_region ?_
        refine g_step rfl (s_callp rfl rfl rfl (awake44_ok _) ?_)
        rintro _ rfl
        refine g_step rfl (s_val (v_assign rfl) rfl rfl ?_)
        refine g_nil ?_
        refine g_next hK13 ?_
        refine g_ret ?_
        refine g_then_ret ?_
        refine g_block_ret ?_
        refine g_then_ret ?_
        refine g_then_ret ?_
        refine g_block_ret ?_
        refine g_then_ret ?_
        refine g_end1 (.inl rfl) Try.results4 (.tmp rfl) [] (ASub.refl _) (by first | exact AHeap.sub_refl _ | exact hown.sub) (fun p hp => by cases hp) ⟨rfl, ?_⟩
        rfl
      · try simp only [decide_eq_true_eq, decide_eq_false_iff_not, Bool.not_eq_true', Bool.not_eq_false', Bool.not_eq_eq_eq_not, Bool.not_true, Bool.not_false, Bool.and_eq_true, Bool.or_eq_true, Bool.or_eq_false_iff, beq_iff_eq, beq_eq_false_iff_ne, ne_eq, Int.not_lt, Int.not_le, Decidable.not_not] at hc29
        have hfk : fewL l = true := by simpa using hc29
        obtain ⟨hl20, hls⟩ := fewL_small hfk
        refine g_skip ?_
        refine g_next hK11 ?_
        refine g_cut (fun env L B G => ∃ (u2 : Bool), env = [(0, .imm (ls.map encRs)), (1, .int .i64 k), (5, av), (6, .bool u2), (7, .int .i64 (i : Int))] ∧ L = [] ∧ B = [] ∧ Own w0.heap.size 2 H av ((acc).map encE) G ∧ u2 = (ls.take (i + 1)).all srt ∧ (u2 = true → u = true ∧ srt l = true)) ?_ (fun env L B G hI => ?_)
        · skip
          refine g_seq (fun K14 hK14 => ?_)
          refine g_region ?_
          refine g_step rfl (s_val (v_move rfl) rfl rfl ?_)
          refine g_step rfl (s_val (v_move rfl) rfl rfl ?_)
          refine g_step rfl (s_val (v_indexAddr ty31 ty22 rfl rfl (by first | rfl | assumption) (by first | rfl | exact (rfl : (0 : Int) = ((0 : Nat) : Int)) | exact (Int.toNat_of_nonneg (by omega)).symm) (map_get hl) rfl) rfl rfl ?_)
          refine g_step rfl (s_val (by first | exact v_load ty22 rfl rfl (by first | rfl | assumption) (map_get hl) rfl | exact v_load_box ty22 rfl rfl (by assumption) rfl) rfl rfl ?_)
          refine g_step rfl (s_callp rfl rfl rfl (sorted_ok l _ (by omega) hls) ?_)
          rintro _ rfl
          refine g_step rfl (s_val (v_not rfl) rfl rfl ?_)
          refine g_nil ?_
          refine g_next hK14 ?_
          refine g_cond rfl (fun hc36 => ?_) (fun hc36 => ?_)
          · try simp only [decide_eq_true_eq, decide_eq_false_iff_not, Bool.not_eq_true', Bool.not_eq_false', Bool.not_eq_eq_eq_not, Bool.not_true, Bool.not_false, Bool.and_eq_true, Bool.or_eq_true, Bool.or_eq_false_iff, beq_iff_eq, beq_eq_false_iff_ne, ne_eq, Int.not_lt, Int.not_le, Decidable.not_not] at hc36
            refine g_region ?_
            refine g_step rfl (s_val (v_assign rfl) rfl rfl ?_)
            refine g_nil ?_
            first | refine g_keep [0, 1, 5, 6, 7] [] [] (keep_cons rfl (keep_cons rfl (keep_cons rfl (keep_cons rfl (keep_cons rfl keep_nil))))) lkeep_nil keep_nil rfl ?_ | refine g_keep [0, 1, 5, 6, 7] [] [] rfl rfl rfl rfl ?_
            first | exact g_has ⟨false, rfl, rfl, rfl, ⟨hown, by rw [all_snoc hl, ← hu, show srt l = false by simpa using hc36, Bool.and_false], fun h => by cases h⟩⟩ | exact g_has ⟨u, rfl, rfl, rfl, ⟨hown, by rw [all_snoc hl, ← hu, show srt l = true by simpa using hc36, Bool.and_true], fun h => ⟨h, by simpa using hc36⟩⟩⟩
          · try simp only [decide_eq_true_eq, decide_eq_false_iff_not, Bool.not_eq_true', Bool.not_eq_false', Bool.not_eq_eq_eq_not, Bool.not_true, Bool.not_false, Bool.and_eq_true, Bool.or_eq_true, Bool.or_eq_false_iff, beq_iff_eq, beq_eq_false_iff_ne, ne_eq, Int.not_lt, Int.not_le, Decidable.not_not] at hc36
            refine g_skip ?_
            first | refine g_keep [0, 1, 5, 6, 7] [] [] (keep_cons rfl (keep_cons rfl (keep_cons rfl (keep_cons rfl (keep_cons rfl keep_nil))))) lkeep_nil keep_nil rfl ?_ | refine g_keep [0, 1, 5, 6, 7] [] [] rfl rfl rfl rfl ?_
            first | exact g_has ⟨false, rfl, rfl, rfl, ⟨hown, by rw [all_snoc hl, ← hu, show srt l = false by simpa using hc36, Bool.and_false], fun h => by cases h⟩⟩ | exact g_has ⟨u, rfl, rfl, rfl, ⟨hown, by rw [all_snoc hl, ← hu, show srt l = true by simpa using hc36, Bool.and_true], fun h => ⟨h, by simpa using hc36⟩⟩⟩
        · skip
          obtain ⟨u2, rfl, rfl, rfl, hown, hu2, hu4⟩ := hI
          have hu3 : u2 = true → u = true := fun h => (hu4 h).1
          have hf2 : (ls.take (i + 1)).all fewL = true := by rw [all_snoc hl, hf, hfk]; rfl
          refine g_seq (fun K15 hK15 => ?_)
          refine g_region ?_
          refine g_step rfl (s_val (v_move rfl) rfl rfl ?_)
          refine g_step rfl (s_val (v_move rfl) rfl rfl ?_)
          refine g_split 38 rfl (fun hg38 => ?_) (fun hg38 => ?_)
          · try simp only [decide_eq_true_eq, decide_eq_false_iff_not, Bool.not_eq_true', Bool.not_eq_false', Bool.not_eq_eq_eq_not, Bool.not_true, Bool.not_false, Bool.and_eq_true, Bool.or_eq_true, Bool.or_eq_false_iff, beq_iff_eq, beq_eq_false_iff_ne, ne_eq, Int.not_lt, Int.not_le, Decidable.not_not] at hg38
            refine g_step_yes (j := 1) (t := 38) rfl rfl rfl rfl (s_val (v_move rfl) rfl rfl ?_)
            refine g_step_yes (j := 1) (t := 38) rfl rfl rfl rfl (s_val (v_gtr rfl rfl) rfl rfl ?_)
            refine g_step rfl (s_val (v_pick_t rfl rfl) rfl rfl ?_)
            refine g_nil ?_
            refine g_next hK15 ?_
            refine g_cond rfl (fun hc41 => ?_) (fun hc41 => ?_)
            · try simp only [decide_eq_true_eq, decide_eq_false_iff_not, Bool.not_eq_true', Bool.not_eq_false', Bool.not_eq_eq_eq_not, Bool.not_true, Bool.not_false, Bool.and_eq_true, Bool.or_eq_true, Bool.or_eq_false_iff, beq_iff_eq, beq_eq_false_iff_ne, ne_eq, Int.not_lt, Int.not_le, Decidable.not_not] at hc41
              obtain ⟨p, hp⟩ := get_some (l := ls) (k := i - 1) (by omega)
              have hut : u = true := hu3 (by assumption)
              have hsp : srt p = true ∧ srt l = true := ⟨List.all_eq_true.1 (hu ▸ hut) p (take_mem hp (by omega)), (hu4 (by assumption)).2⟩
              obtain ⟨hp20, hps⟩ := fewL_small (List.all_eq_true.1 hf p (take_mem hp (by omega)))
              have hev := ev_len p l
              refine g_draw (n := 13) (fun j => !([11] : List Nat).contains j) rfl rfl ?_
              refine m_take 0 false rfl rfl (by kernel_rfl) (by kernel_rfl) (by kernel_rfl) (fun _ _ _ _ h => h) (v_move rfl) rfl rfl ?_
              refine m_take 1 false rfl rfl (by kernel_rfl) (by kernel_rfl) (by kernel_rfl) (fun _ _ _ _ h => h) (v_move rfl) rfl rfl ?_
              refine m_take 2 false rfl rfl (by kernel_rfl) (by kernel_rfl) (by kernel_rfl) (fun _ _ _ _ h => h) (v_move rfl) rfl rfl ?_
              refine m_take 3 false rfl rfl (by kernel_rfl) (by kernel_rfl) (by kernel_rfl) (fun _ _ _ _ h => h) (v_sub_ rfl rfl (by omega)) rfl rfl ?_
              refine m_take 4 false rfl rfl (by kernel_rfl) (by kernel_rfl) (by kernel_rfl) (fun _ _ _ _ h => h) (v_indexAddr ty31 ty22 rfl rfl (by first | rfl | assumption) (show ((i : Int) - 1) = ((i - 1 : Nat) : Int) by omega) (map_get hp) rfl) rfl rfl ?_
              refine m_take 6 false rfl rfl (by kernel_rfl) (by kernel_rfl) (by kernel_rfl) (fun _ _ _ _ h => h) (v_move rfl) rfl rfl ?_
              refine m_take 7 false rfl rfl (by kernel_rfl) (by kernel_rfl) (by kernel_rfl) (fun _ _ _ _ h => h) (v_move rfl) rfl rfl ?_
              refine m_take 8 false rfl rfl (by kernel_rfl) (by kernel_rfl) (by kernel_rfl) (fun _ _ _ _ h => h) (v_indexAddr ty31 ty22 rfl rfl (by first | rfl | assumption) (by first | rfl | exact (rfl : (0 : Int) = ((0 : Nat) : Int)) | exact (Int.toNat_of_nonneg (by omega)).symm) (map_get hl) rfl) rfl rfl ?_
              refine m_all (is := [5, 9]) (by kernel_rfl) rfl (fun _ _ _ => trivial) (fun i hi => ?_)
              rcases (by simpa using hi : i = 5 ∨ i = 9) with rfl | rfl
              · refine ⟨_, rfl, .inl ⟨rfl, ?_⟩⟩
                refine sm_val (by first | exact v_load ty22 rfl rfl (by first | rfl | assumption) (map_get hp) rfl | exact v_load_box ty22 rfl rfl (by assumption) rfl) rfl rfl ?_
                refine m_one 9 (by kernel_rfl) rfl rfl ?_
                refine sm_val (by first | exact v_load ty22 rfl rfl (by first | rfl | assumption) (map_get hl) rfl | exact v_load_box ty22 rfl rfl (by assumption) rfl) rfl rfl ?_
                refine m_one 10 (by kernel_rfl) rfl rfl ?_
                refine sm_callp rfl rfl rfl (between44_ok p l _ (by omega) (by omega) hps hls hsp.1 hsp.2) ?_
                rintro _ rfl
                refine m_one 11 (by kernel_rfl) rfl rfl ?_
                refine sm_any rfl (s_append (l := (acc.map encE)) (m := ((evL p l).map encE)) ty25 ty37 rfl rfl hown rfl rfl (by refine Even.map _ ?_ _; intro _; rfl) (by intro x hx; obtain ⟨_, _, rfl⟩ := List.mem_map.1 hx; rfl) rfl (by simp; omega) (by simp; omega) ?_)
                intro av53 G53 hown53
                refine m_take 12 false rfl rfl (by kernel_rfl) (by kernel_rfl) (by kernel_rfl) (fun _ _ _ _ h => h) (v_assign rfl) rfl rfl ?_
                refine m_done (by kernel_rfl) ?_
                refine g_block_normal ?_
                refine g_next hK10 ?_
                refine g_region ?_
                refine g_step rfl (s_val (v_move rfl) rfl rfl ?_)
                refine g_step rfl (s_val (v_add rfl rfl (by omega)) rfl rfl ?_)
                refine g_step rfl (s_val (v_assign rfl) rfl rfl ?_)
                refine g_nil ?_
                first | refine g_keep [0, 1, 5, 6, 7] [] [] (keep_cons rfl (keep_cons rfl (keep_cons rfl (keep_cons rfl (keep_cons rfl keep_nil))))) lkeep_nil keep_nil rfl ?_ | refine g_keep [0, 1, 5, 6, 7] [] [] rfl rfl rfl rfl ?_
                first | exact g_round _ (by omega) ⟨i + 1, _, acc ++ evL p l, u2, by omega, rfl, rfl, rfl, rfl, ⟨by rw [List.map_append]; exact hown53, hu2, fun h => by rw [since_step (by omega) hp hl, hacc (hu3 h)], by rw [List.length_append]; omega, hf2⟩⟩ | exact g_round _ (by omega) ⟨i + 1, _, acc, u2, by omega, rfl, rfl, rfl, rfl, ⟨hown, hu2, fun h => by first | (rw [since_first (by omega)]; exact hacc (hu3 h)) | (exfalso; simp_all), by omega, hf2⟩⟩
              · refine ⟨_, rfl, .inl ⟨rfl, ?_⟩⟩
                refine sm_val (by first | exact v_load ty22 rfl rfl (by first | rfl | assumption) (map_get hl) rfl | exact v_load_box ty22 rfl rfl (by assumption) rfl) rfl rfl ?_
                refine m_one 5 (by kernel_rfl) rfl rfl ?_
                refine sm_val (by first | exact v_load ty22 rfl rfl (by first | rfl | assumption) (map_get hp) rfl | exact v_load_box ty22 rfl rfl (by assumption) rfl) rfl rfl ?_
                refine m_one 10 (by kernel_rfl) rfl rfl ?_
                refine sm_callp rfl rfl rfl (between44_ok p l _ (by omega) (by omega) hps hls hsp.1 hsp.2) ?_
                rintro _ rfl
                refine m_one 11 (by kernel_rfl) rfl rfl ?_
                refine sm_any rfl (s_append (l := (acc.map encE)) (m := ((evL p l).map encE)) ty25 ty37 rfl rfl hown rfl rfl (by refine Even.map _ ?_ _; intro _; rfl) (by intro x hx; obtain ⟨_, _, rfl⟩ := List.mem_map.1 hx; rfl) rfl (by simp; omega) (by simp; omega) ?_)
                intro av53 G53 hown53
                refine m_take 12 false rfl rfl (by kernel_rfl) (by kernel_rfl) (by kernel_rfl) (fun _ _ _ _ h => h) (v_assign rfl) rfl rfl ?_
                refine m_done (by kernel_rfl) ?_
                refine g_block_normal ?_
                refine g_next hK10 ?_
                refine g_region ?_
                refine g_step rfl (s_val (v_move rfl) rfl rfl ?_)
                refine g_step rfl (s_val (v_add rfl rfl (by omega)) rfl rfl ?_)
                refine g_step rfl (s_val (v_assign rfl) rfl rfl ?_)
                refine g_nil ?_
                first | refine g_keep [0, 1, 5, 6, 7] [] [] (keep_cons rfl (keep_cons rfl (keep_cons rfl (keep_cons rfl (keep_cons rfl keep_nil))))) lkeep_nil keep_nil rfl ?_ | refine g_keep [0, 1, 5, 6, 7] [] [] rfl rfl rfl rfl ?_
                first | exact g_round _ (by omega) ⟨i + 1, _, acc ++ evL p l, u2, by omega, rfl, rfl, rfl, rfl, ⟨by rw [List.map_append]; exact hown53, hu2, fun h => by rw [since_step (by omega) hp hl, hacc (hu3 h)], by rw [List.length_append]; omega, hf2⟩⟩ | exact g_round _ (by omega) ⟨i + 1, _, acc, u2, by omega, rfl, rfl, rfl, rfl, ⟨hown, hu2, fun h => by first | (rw [since_first (by omega)]; exact hacc (hu3 h)) | (exfalso; simp_all), by omega, hf2⟩⟩
            · try simp only [decide_eq_true_eq, decide_eq_false_iff_not, Bool.not_eq_true', Bool.not_eq_false', Bool.not_eq_eq_eq_not, Bool.not_true, Bool.not_false, Bool.and_eq_true, Bool.or_eq_true, Bool.or_eq_false_iff, beq_iff_eq, beq_eq_false_iff_ne, ne_eq, Int.not_lt, Int.not_le, Decidable.not_not] at hc41
              refine g_skip ?_
              refine g_block_normal ?_
              refine g_next hK10 ?_
              refine g_region ?_
              refine g_step rfl (s_val (v_move rfl) rfl rfl ?_)
              refine g_step rfl (s_val (v_add rfl rfl (by omega)) rfl rfl ?_)
              refine g_step rfl (s_val (v_assign rfl) rfl rfl ?_)
              refine g_nil ?_
              first | refine g_keep [0, 1, 5, 6, 7] [] [] (keep_cons rfl (keep_cons rfl (keep_cons rfl (keep_cons rfl (keep_cons rfl keep_nil))))) lkeep_nil keep_nil rfl ?_ | refine g_keep [0, 1, 5, 6, 7] [] [] rfl rfl rfl rfl ?_
              first | exact g_round _ (by omega) ⟨i + 1, _, acc ++ evL p l, u2, by omega, rfl, rfl, rfl, rfl, ⟨by rw [List.map_append]; exact hown53, hu2, fun h => by rw [since_step (by omega) hp hl, hacc (hu3 h)], by rw [List.length_append]; omega, hf2⟩⟩ | exact g_round _ (by omega) ⟨i + 1, _, acc, u2, by omega, rfl, rfl, rfl, rfl, ⟨hown, hu2, fun h => by first | (rw [since_first (by omega)]; exact hacc (hu3 h)) | (exfalso; simp_all), by omega, hf2⟩⟩
          · try simp only [decide_eq_true_eq, decide_eq_false_iff_not, Bool.not_eq_true', Bool.not_eq_false', Bool.not_eq_eq_eq_not, Bool.not_true, Bool.not_false, Bool.and_eq_true, Bool.or_eq_true, Bool.or_eq_false_iff, beq_iff_eq, beq_eq_false_iff_ne, ne_eq, Int.not_lt, Int.not_le, Decidable.not_not] at hg38
            refine g_step_no (j := 1) (t := 38) rfl rfl rfl rfl rfl rfl rfl ?_
            refine g_step_no (j := 1) (t := 38) rfl rfl rfl rfl rfl rfl rfl ?_
            refine g_step rfl (s_val (v_pick_f rfl rfl) rfl rfl ?_)
            refine g_nil ?_
            refine g_next hK15 ?_
            refine g_cond rfl (fun h => by cases h) (fun _ => ?_)
            refine g_skip ?_
            refine g_block_normal ?_
            refine g_next hK10 ?_
            refine g_region ?_
            refine g_step rfl (s_val (v_move rfl) rfl rfl ?_)
            refine g_step rfl (s_val (v_add rfl rfl (by omega)) rfl rfl ?_)
            refine g_step rfl (s_val (v_assign rfl) rfl rfl ?_)
            refine g_nil ?_
            first | refine g_keep [0, 1, 5, 6, 7] [] [] (keep_cons rfl (keep_cons rfl (keep_cons rfl (keep_cons rfl (keep_cons rfl keep_nil))))) lkeep_nil keep_nil rfl ?_ | refine g_keep [0, 1, 5, 6, 7] [] [] rfl rfl rfl rfl ?_
            first | exact g_round _ (by omega) ⟨i + 1, _, acc ++ evL p l, u2, by omega, rfl, rfl, rfl, rfl, ⟨by rw [List.map_append]; exact hown53, hu2, fun h => by rw [since_step (by omega) hp hl, hacc (hu3 h)], by rw [List.length_append]; omega, hf2⟩⟩ | exact g_round _ (by omega) ⟨i + 1, _, acc, u2, by omega, rfl, rfl, rfl, rfl, ⟨hown, hu2, fun h => by first | (rw [since_first (by omega)]; exact hacc (hu3 h)) | (exfalso; simp_all), by omega, hf2⟩⟩
    · try simp only [decide_eq_true_eq, decide_eq_false_iff_not, Bool.not_eq_true', Bool.not_eq_false', Bool.not_eq_eq_eq_not, Bool.not_true, Bool.not_false, Bool.and_eq_true, Bool.or_eq_true, Bool.or_eq_false_iff, beq_iff_eq, beq_eq_false_iff_ne, ne_eq, Int.not_lt, Int.not_le, Decidable.not_not] at hc21
      obtain rfl : i = ls.length := by omega
      have hfew : ∀ x ∈ ls, fewL x = true := by rw [List.take_length] at hf; exact List.all_eq_true.1 hf
      have hll : ∀ l ∈ ls, l.length ≤ 1000 := fun l h => by have := (fewL_small (hfew l h)).1; omega
      have hsm : ∀ l ∈ ls, ∀ r ∈ l, Small r.bag := fun l h => (fewL_small (hfew l h)).2
      rw [List.take_length] at hu
      refine g_exit ?_
      refine g_then_exit ?_
      refine g_then_exit ?_
      refine g_block_same ?_
      refine g_next hK6 ?_
      refine g_seq (fun K16 hK16 => ?_)
      refine g_region ?_
      refine g_freeze 5 rfl hown ?_
      refine g_step rfl (s_lit ty32 ty9 rfl rfl rfl rfl rfl rfl rfl ?_)
      refine g_step rfl (s_val (v_assign rfl) rfl rfl ?_)
      refine g_nil ?_
      refine g_next hK16 ?_
      refine g_seq (fun K17 hK17 => ?_)
      refine g_region ?_
      refine g_step rfl (s_val (v_assign rfl) rfl rfl ?_)
      refine g_nil ?_
      refine g_next hK17 ?_
      refine g_cut (fun env L B G => ∃ (nm : ByteArray), env = [(0, .imm (ls.map encRs)), (1, .int .i64 k), (5, .imm (acc.map encE)), (6, .bool u), (9, .str nm)] ∧ L = [] ∧ B = [] ∧ H = G ∧ nm = evName k) ?_ (fun env L B G hI => ?_)
      · skip
        refine g_seq (fun K18 hK18 => ?_)
        refine g_region ?_
        refine g_step rfl (s_val (v_move rfl) rfl rfl ?_)
        refine g_step rfl (s_val (v_geq rfl rfl) rfl rfl ?_)
        refine g_step rfl (s_val (v_move rfl) rfl rfl ?_)
        refine g_split 57 rfl (fun hg57 => ?_) (fun hg57 => ?_)
        · try simp only [decide_eq_true_eq, decide_eq_false_iff_not, Bool.not_eq_true', Bool.not_eq_false', Bool.not_eq_eq_eq_not, Bool.not_true, Bool.not_false, Bool.and_eq_true, Bool.or_eq_true, Bool.or_eq_false_iff, beq_iff_eq, beq_eq_false_iff_ne, ne_eq, Int.not_lt, Int.not_le, Decidable.not_not] at hg57
          refine g_step_yes (j := 2) (t := 57) rfl rfl rfl rfl (s_val (v_move rfl) rfl rfl ?_)
          refine g_step_yes (j := 2) (t := 57) rfl rfl rfl rfl (s_val (v_leq rfl rfl) rfl rfl ?_)
          refine g_step rfl (s_val (v_pick_t rfl rfl) rfl rfl ?_)
          refine g_nil ?_
          refine g_next hK18 ?_
          refine g_cond rfl (fun hc60 => ?_) (fun hc60 => ?_)
          · try simp only [decide_eq_true_eq, decide_eq_false_iff_not, Bool.not_eq_true', Bool.not_eq_false', Bool.not_eq_eq_eq_not, Bool.not_true, Bool.not_false, Bool.and_eq_true, Bool.or_eq_true, Bool.or_eq_false_iff, beq_iff_eq, beq_eq_false_iff_ne, ne_eq, Int.not_lt, Int.not_le, Decidable.not_not] at hc60
            refine g_region ?_
            refine g_step rfl (s_val (v_move rfl) rfl rfl ?_)
            refine g_step rfl (s_val (v_move rfl) rfl rfl ?_)
            refine g_step rfl (s_val (v_sub_ rfl rfl (by omega)) rfl rfl ?_)
            refine g_step rfl (s_val (v_indexAddr ty32 ty9 rfl rfl (by first | rfl | assumption) (show (k - 1) = (((k - 1).toNat : Nat) : Int) by omega) (map_get (evName_get (by omega) (by omega))) rfl) rfl rfl ?_)
            refine g_step rfl (s_val (by first | exact v_load ty9 rfl rfl (by first | rfl | assumption) (map_get (evName_get (by omega) (by omega))) rfl | exact v_load_box ty9 rfl rfl (by assumption) rfl) rfl rfl ?_)
            refine g_step rfl (s_val (v_assign rfl) rfl rfl ?_)
            refine g_nil ?_
            first | refine g_keep [0, 1, 5, 6, 9] [] [] (keep_cons rfl (keep_cons rfl (keep_cons rfl (keep_cons rfl (keep_cons rfl keep_nil))))) lkeep_nil keep_nil rfl ?_ | refine g_keep [0, 1, 5, 6, 9] [] [] rfl rfl rfl rfl ?_
            first | exact g_has ⟨_, rfl, rfl, rfl, rfl, rfl⟩ | exact g_has ⟨_, rfl, rfl, rfl, rfl, (evName_no (by omega)).symm⟩
          · try simp only [decide_eq_true_eq, decide_eq_false_iff_not, Bool.not_eq_true', Bool.not_eq_false', Bool.not_eq_eq_eq_not, Bool.not_true, Bool.not_false, Bool.and_eq_true, Bool.or_eq_true, Bool.or_eq_false_iff, beq_iff_eq, beq_eq_false_iff_ne, ne_eq, Int.not_lt, Int.not_le, Decidable.not_not] at hc60
            refine g_skip ?_
            first | refine g_keep [0, 1, 5, 6, 9] [] [] (keep_cons rfl (keep_cons rfl (keep_cons rfl (keep_cons rfl (keep_cons rfl keep_nil))))) lkeep_nil keep_nil rfl ?_ | refine g_keep [0, 1, 5, 6, 9] [] [] rfl rfl rfl rfl ?_
            first | exact g_has ⟨_, rfl, rfl, rfl, rfl, rfl⟩ | exact g_has ⟨_, rfl, rfl, rfl, rfl, (evName_no (by omega)).symm⟩
        · try simp only [decide_eq_true_eq, decide_eq_false_iff_not, Bool.not_eq_true', Bool.not_eq_false', Bool.not_eq_eq_eq_not, Bool.not_true, Bool.not_false, Bool.and_eq_true, Bool.or_eq_true, Bool.or_eq_false_iff, beq_iff_eq, beq_eq_false_iff_ne, ne_eq, Int.not_lt, Int.not_le, Decidable.not_not] at hg57
          refine g_step_no (j := 2) (t := 57) rfl rfl rfl rfl rfl rfl rfl ?_
          refine g_step_no (j := 2) (t := 57) rfl rfl rfl rfl rfl rfl rfl ?_
          refine g_step rfl (s_val (v_pick_f rfl rfl) rfl rfl ?_)
          refine g_nil ?_
          refine g_next hK18 ?_
          refine g_cond rfl (fun h => by cases h) (fun _ => ?_)
          refine g_skip ?_
          first | refine g_keep [0, 1, 5, 6, 9] [] [] (keep_cons rfl (keep_cons rfl (keep_cons rfl (keep_cons rfl (keep_cons rfl keep_nil))))) lkeep_nil keep_nil rfl ?_ | refine g_keep [0, 1, 5, 6, 9] [] [] rfl rfl rfl rfl ?_
          first | exact g_has ⟨_, rfl, rfl, rfl, rfl, rfl⟩ | exact g_has ⟨_, rfl, rfl, rfl, rfl, (evName_no (by omega)).symm⟩
      · skip
        obtain ⟨nm, rfl, rfl, rfl, rfl, hnm⟩ := hI
        refine g_seq (fun K19 hK19 => ?_)
        refine g_region ?_
        refine g_step rfl (s_val (v_move rfl) rfl rfl ?_)
        refine g_step rfl (s_callp rfl rfl rfl (since_ok ls _ (by omega) hll hsm) ?_)
        rintro _ rfl
        refine g_step rfl (s_val (v_move rfl) rfl rfl ?_)
        refine g_step rfl (s_val (v_extract rfl rfl) rfl rfl ?_)
        refine g_step rfl (s_val (v_extract rfl rfl) rfl rfl ?_)
        refine g_step rfl (s_val (v_assign rfl) rfl rfl ?_)
        refine g_step rfl (s_val (v_assign rfl) rfl rfl ?_)
        refine g_nil ?_
        refine g_next hK19 ?_
        refine g_seq (fun K20 hK20 => ?_)
        refine g_seq (fun K21 hK21 => ?_)
        refine g_region ?_
        refine g_step rfl (s_val (v_move rfl) rfl rfl ?_)
        refine g_step rfl (s_val (v_not rfl) rfl rfl ?_)
        refine g_nil ?_
        refine g_next hK21 ?_
        refine g_cond rfl (fun hc72 => ?_) (fun hc72 => ?_)
        · try simp only [decide_eq_true_eq, decide_eq_false_iff_not, Bool.not_eq_true', Bool.not_eq_false', Bool.not_eq_eq_eq_not, Bool.not_true, Bool.not_false, Bool.and_eq_true, Bool.or_eq_true, Bool.or_eq_false_iff, beq_iff_eq, beq_eq_false_iff_ne, ne_eq, Int.not_lt, Int.not_le, Decidable.not_not] at hc72
          have hno : ls.all srt = false := by rw [← hu]; simpa using hc72
          refine g_seq (fun K22 hK22 => ?_)
          refine g_region ?_
          refine g_step rfl (s_val (v_move rfl) rfl rfl ?_)
          refine g_step rfl (s_val (v_not rfl) rfl rfl ?_)
          refine g_step rfl (s_val (v_move rfl) rfl rfl ?_)
          refine g_split 75 rfl (fun hg75 => ?_) (fun hg75 => ?_)
          · try simp only [decide_eq_true_eq, decide_eq_false_iff_not, Bool.not_eq_true', Bool.not_eq_false', Bool.not_eq_eq_eq_not, Bool.not_true, Bool.not_false, Bool.and_eq_true, Bool.or_eq_true, Bool.or_eq_false_iff, beq_iff_eq, beq_eq_false_iff_ne, ne_eq, Int.not_lt, Int.not_le, Decidable.not_not] at hg75
            refine g_step_yes (j := 2) (t := 75) rfl rfl rfl rfl (s_val (v_move rfl) rfl rfl ?_)
            refine g_step_yes (j := 2) (t := 75) rfl rfl rfl rfl (s_val (v_len ty25 rfl (by first | rfl | assumption) (by first | exact List.length_map .. | rfl)) rfl rfl ?_)
            refine g_step_yes (j := 2) (t := 75) rfl rfl rfl rfl (s_val (v_eql rfl rfl) rfl rfl ?_)
            refine g_step rfl (s_val (v_pick_t rfl rfl) rfl rfl ?_)
            refine g_step rfl (s_val (v_move rfl) rfl rfl ?_)
            refine g_split 80 rfl (fun hg80 => ?_) (fun hg80 => ?_)
            · try simp only [decide_eq_true_eq, decide_eq_false_iff_not, Bool.not_eq_true', Bool.not_eq_false', Bool.not_eq_eq_eq_not, Bool.not_true, Bool.not_false, Bool.and_eq_true, Bool.or_eq_true, Bool.or_eq_false_iff, beq_iff_eq, beq_eq_false_iff_ne, ne_eq, Int.not_lt, Int.not_le, Decidable.not_not] at hg80
              refine g_step_yes (j := 7) (t := 80) rfl rfl rfl rfl (s_val (v_move rfl) rfl rfl ?_)
              refine g_step_yes (j := 7) (t := 80) rfl rfl rfl rfl (s_callp rfl rfl rfl (evName_ok _ _) ?_)
              rintro _ rfl
              refine g_step_yes (j := 7) (t := 80) rfl rfl rfl rfl (s_val (v_move rfl) rfl rfl ?_)
              refine g_step_yes (j := 7) (t := 80) rfl rfl rfl rfl (s_val (v_seq rfl rfl) rfl rfl ?_)
              refine g_step rfl (s_val (v_pick_t rfl rfl) rfl rfl ?_)
              refine g_step rfl (s_val (v_move rfl) rfl rfl ?_)
              refine g_split 86 rfl (fun hg86 => ?_) (fun hg86 => ?_)
              · try simp only [decide_eq_true_eq, decide_eq_false_iff_not, Bool.not_eq_true', Bool.not_eq_false', Bool.not_eq_eq_eq_not, Bool.not_true, Bool.not_false, Bool.and_eq_true, Bool.or_eq_true, Bool.or_eq_false_iff, beq_iff_eq, beq_eq_false_iff_ne, ne_eq, Int.not_lt, Int.not_le, Decidable.not_not] at hg86
                refine g_step_yes (j := 13) (t := 86) rfl rfl rfl rfl (s_callp rfl rfl rfl (awake44_ok _) ?_)
                rintro _ rfl
                refine g_step rfl (s_val (v_pick_t rfl rfl) rfl rfl ?_)
                refine g_step rfl (s_val (v_assign rfl) rfl rfl ?_)
                refine g_nil ?_
                refine g_next hK22 ?_
                first | refine g_keep [4] [] [] (keep_cons rfl keep_nil) lkeep_nil keep_nil rfl ?_ | refine g_keep [4] [] [] rfl rfl rfl rfl ?_
                refine g_ret ?_
                refine g_then_ret ?_
                refine g_end1 (.inl rfl) Try.results4 (.tmp rfl) [] (ASub.refl _) (by first | exact AHeap.sub_refl _ | exact hown.sub) (fun p hp => by cases hp) ⟨rfl, ?_⟩
                rfl
              · exfalso; (try simp only [decide_eq_true_eq, decide_eq_false_iff_not, Bool.not_eq_true', Bool.not_eq_false', Bool.not_eq_eq_eq_not, Bool.not_true, Bool.not_false, Bool.and_eq_true, Bool.or_eq_true, Bool.or_eq_false_iff, beq_iff_eq, beq_eq_false_iff_ne, ne_eq, Int.not_lt, Int.not_le, Decidable.not_not] at hg86); simp [hnm] at hg86
            · exfalso; (try simp only [decide_eq_true_eq, decide_eq_false_iff_not, Bool.not_eq_true', Bool.not_eq_false', Bool.not_eq_eq_eq_not, Bool.not_true, Bool.not_false, Bool.and_eq_true, Bool.or_eq_true, Bool.or_eq_false_iff, beq_iff_eq, beq_eq_false_iff_ne, ne_eq, Int.not_lt, Int.not_le, Decidable.not_not] at hg80); simp [sinceE, hno] at hg80
          · exfalso; (try simp only [decide_eq_true_eq, decide_eq_false_iff_not, Bool.not_eq_true', Bool.not_eq_false', Bool.not_eq_eq_eq_not, Bool.not_true, Bool.not_false, Bool.and_eq_true, Bool.or_eq_true, Bool.or_eq_false_iff, beq_iff_eq, beq_eq_false_iff_ne, ne_eq, Int.not_lt, Int.not_le, Decidable.not_not] at hg75); simp [hno] at hg75
        · try simp only [decide_eq_true_eq, decide_eq_false_iff_not, Bool.not_eq_true', Bool.not_eq_false', Bool.not_eq_eq_eq_not, Bool.not_true, Bool.not_false, Bool.and_eq_true, Bool.or_eq_true, Bool.or_eq_false_iff, beq_iff_eq, beq_eq_false_iff_ne, ne_eq, Int.not_lt, Int.not_le, Decidable.not_not] at hc72
          have hyes : ls.all srt = true := by rw [← hu]; simpa using hc72
          have hse : sinceE ls = acc := by rw [hacc (by rw [hu]; exact hyes), sinceE, if_pos hyes]
          refine g_skip ?_
          refine g_next hK20 ?_
          refine g_seq (fun K23 hK23 => ?_)
          refine g_region ?_
          refine g_step rfl (s_val (v_assign rfl) rfl rfl ?_)
          refine g_nil ?_
          refine g_next hK23 ?_
          refine g_seq (fun K24 hK24 => ?_)
          refine g_seq (fun K25 hK25 => ?_)
          refine g_region ?_
          refine g_step rfl (s_val (v_assign rfl) rfl rfl ?_)
          refine g_nil ?_
          refine g_next hK25 ?_
          refine g_block ?_
          first | refine g_keep [1, 5, 9, 10, 11, 12, 13] [] [] (keep_cons rfl (keep_cons rfl (keep_cons rfl (keep_cons rfl (keep_cons rfl (keep_cons rfl (keep_cons rfl keep_nil))))))) lkeep_nil keep_nil rfl ?_ | refine g_keep [1, 5, 9, 10, 11, 12, 13] [] [] rfl rfl rfl rfl ?_
          refine g_loop (fun n env L B G => ∃ (j : Nat) (w : Int), j ≤ acc.length ∧ n = acc.length - j ∧ env = [(1, .int .i64 k), (5, .imm (acc.map encE)), (9, .str nm), (10, (encEs (sinceE ls))), (11, .bool (ls.all srt)), (12, .int .i64 w), (13, .int .i64 (j : Int))] ∧ L = [] ∧ B = [] ∧ H = G ∧ w = (((acc.take j).filter (cntE k)).length : Nat)) (acc.length) ⟨0, 0, Nat.zero_le _, rfl, rfl, rfl, rfl, rfl, rfl⟩ (fun n env L B G hI => ?_)
          obtain ⟨j, w, hj, rfl, rfl, rfl, rfl, rfl, hw⟩ := hI
          refine g_seq (fun K26 hK26 => ?_)
          refine g_seq (fun K27 hK27 => ?_)
          refine g_region ?_
          refine g_step rfl (s_val (v_move rfl) rfl rfl ?_)
          refine g_step rfl (s_val (v_move rfl) rfl rfl ?_)
          refine g_step rfl (s_val (v_len ty25 rfl (by first | rfl | assumption) (by first | exact List.length_map .. | rfl)) rfl rfl ?_)
          refine g_step rfl (s_val (v_lss rfl rfl) rfl rfl ?_)
          refine g_nil ?_
          refine g_next hK27 ?_
          refine g_cond rfl (fun hc92 => ?_) (fun hc92 => ?_)
          · try simp only [decide_eq_true_eq, decide_eq_false_iff_not, Bool.not_eq_true', Bool.not_eq_false', Bool.not_eq_eq_eq_not, Bool.not_true, Bool.not_false, Bool.and_eq_true, Bool.or_eq_true, Bool.or_eq_false_iff, beq_iff_eq, beq_eq_false_iff_ne, ne_eq, Int.not_lt, Int.not_le, Decidable.not_not] at hc92
            obtain ⟨e, he⟩ := get_some (l := acc) (k := j) (by omega)
            have hcl := cnt_len (p := cntE k) (l := acc) (k := j)
            refine g_skip ?_
            refine g_next hK26 ?_
            refine g_seq (fun K28 hK28 => ?_)
            refine g_block ?_
            refine g_seq (fun K29 hK29 => ?_)
            refine g_region ?_
            refine g_step rfl (s_val (v_move rfl) rfl rfl ?_)
            refine g_step rfl (s_val (v_move rfl) rfl rfl ?_)
            refine g_step rfl (s_val (v_indexAddr ty25 ty37 rfl rfl (by first | rfl | assumption) (by first | rfl | exact (rfl : (0 : Int) = ((0 : Nat) : Int)) | exact (Int.toNat_of_nonneg (by omega)).symm) (map_get he) rfl) rfl rfl ?_)
            refine g_step rfl (s_val (by first | exact v_fieldAddr ty37 fo37_0 ty35 rfl | exact v_fieldAddr_box ty37 fo37_0 ty35 rfl) rfl rfl ?_)
            refine g_step rfl (s_val (by first | exact v_load ty35 rfl rfl (by first | rfl | assumption) (map_get he) rfl | exact v_load_box ty35 rfl rfl (by assumption) rfl) rfl rfl ?_)
            refine g_step rfl (s_val (v_move rfl) rfl rfl ?_)
            refine g_step rfl (s_val (v_eql rfl rfl) rfl rfl ?_)
            refine g_nil ?_
            refine g_next hK29 ?_
            refine g_cond rfl (fun hc101 => ?_) (fun hc101 => ?_)
            · try simp only [decide_eq_true_eq, decide_eq_false_iff_not, Bool.not_eq_true', Bool.not_eq_false', Bool.not_eq_eq_eq_not, Bool.not_true, Bool.not_false, Bool.and_eq_true, Bool.or_eq_true, Bool.or_eq_false_iff, beq_iff_eq, beq_eq_false_iff_ne, ne_eq, Int.not_lt, Int.not_le, Decidable.not_not] at hc101
              refine g_region ?_
              refine g_step rfl (s_val (v_move rfl) rfl rfl ?_)
              refine g_step rfl (s_val (v_add rfl rfl (by omega)) rfl rfl ?_)
              refine g_step rfl (s_val (v_assign rfl) rfl rfl ?_)
              refine g_nil ?_
              refine g_block_normal ?_
              refine g_next hK28 ?_
              refine g_region ?_
              refine g_step rfl (s_val (v_move rfl) rfl rfl ?_)
              refine g_step rfl (s_val (v_add rfl rfl (by omega)) rfl rfl ?_)
              refine g_step rfl (s_val (v_assign rfl) rfl rfl ?_)
              refine g_nil ?_
              first | refine g_keep [1, 5, 9, 10, 11, 12, 13] [] [] (keep_cons rfl (keep_cons rfl (keep_cons rfl (keep_cons rfl (keep_cons rfl (keep_cons rfl (keep_cons rfl keep_nil))))))) lkeep_nil keep_nil rfl ?_ | refine g_keep [1, 5, 9, 10, 11, 12, 13] [] [] rfl rfl rfl rfl ?_
              first | exact g_round _ (by omega) ⟨j + 1, w + 1, by omega, rfl, rfl, rfl, rfl, rfl, by rw [filter_snoc he, if_pos (cntE_yes (by omega)), List.length_append, hw]; rfl⟩ | exact g_round _ (by omega) ⟨j + 1, w, by omega, rfl, rfl, rfl, rfl, rfl, by rw [filter_snoc he, cntE_no (k := k) (e := e) (by omega), if_neg (by simp), List.append_nil]; exact hw⟩
            · try simp only [decide_eq_true_eq, decide_eq_false_iff_not, Bool.not_eq_true', Bool.not_eq_false', Bool.not_eq_eq_eq_not, Bool.not_true, Bool.not_false, Bool.and_eq_true, Bool.or_eq_true, Bool.or_eq_false_iff, beq_iff_eq, beq_eq_false_iff_ne, ne_eq, Int.not_lt, Int.not_le, Decidable.not_not] at hc101
              refine g_skip ?_
              refine g_block_normal ?_
              refine g_next hK28 ?_
              refine g_region ?_
              refine g_step rfl (s_val (v_move rfl) rfl rfl ?_)
              refine g_step rfl (s_val (v_add rfl rfl (by omega)) rfl rfl ?_)
              refine g_step rfl (s_val (v_assign rfl) rfl rfl ?_)
              refine g_nil ?_
              first | refine g_keep [1, 5, 9, 10, 11, 12, 13] [] [] (keep_cons rfl (keep_cons rfl (keep_cons rfl (keep_cons rfl (keep_cons rfl (keep_cons rfl (keep_cons rfl keep_nil))))))) lkeep_nil keep_nil rfl ?_ | refine g_keep [1, 5, 9, 10, 11, 12, 13] [] [] rfl rfl rfl rfl ?_
              first | exact g_round _ (by omega) ⟨j + 1, w + 1, by omega, rfl, rfl, rfl, rfl, rfl, by rw [filter_snoc he, if_pos (cntE_yes (by omega)), List.length_append, hw]; rfl⟩ | exact g_round _ (by omega) ⟨j + 1, w, by omega, rfl, rfl, rfl, rfl, rfl, by rw [filter_snoc he, cntE_no (k := k) (e := e) (by omega), if_neg (by simp), List.append_nil]; exact hw⟩
          · try simp only [decide_eq_true_eq, decide_eq_false_iff_not, Bool.not_eq_true', Bool.not_eq_false', Bool.not_eq_eq_eq_not, Bool.not_true, Bool.not_false, Bool.and_eq_true, Bool.or_eq_true, Bool.or_eq_false_iff, beq_iff_eq, beq_eq_false_iff_ne, ne_eq, Int.not_lt, Int.not_le, Decidable.not_not] at hc92
            obtain rfl : j = acc.length := by omega
            rw [List.take_length] at hw
            refine g_exit ?_
            refine g_then_exit ?_
            refine g_then_exit ?_
            refine g_block_same ?_
            refine g_next hK24 ?_
            refine g_seq (fun K30 hK30 => ?_)
            refine g_region ?_
            refine g_step rfl (s_val (v_move rfl) rfl rfl ?_)
            refine g_step rfl (s_val (v_move rfl) rfl rfl ?_)
            refine g_split 105 rfl (fun hg105 => ?_) (fun hg105 => ?_)
            · try simp only [decide_eq_true_eq, decide_eq_false_iff_not, Bool.not_eq_true', Bool.not_eq_false', Bool.not_eq_eq_eq_not, Bool.not_true, Bool.not_false, Bool.and_eq_true, Bool.or_eq_true, Bool.or_eq_false_iff, beq_iff_eq, beq_eq_false_iff_ne, ne_eq, Int.not_lt, Int.not_le, Decidable.not_not] at hg105
              refine g_step_yes (j := 1) (t := 105) rfl rfl rfl rfl (s_val (v_move rfl) rfl rfl ?_)
              refine g_step_yes (j := 1) (t := 105) rfl rfl rfl rfl (s_val (v_move rfl) rfl rfl ?_)
              refine g_step_yes (j := 1) (t := 105) rfl rfl rfl rfl (s_callp rfl rfl rfl (same44_ok (sinceE ls) acc _ _ _ rfl rfl (by rw [hse]; omega)) ?_)
              rintro _ rfl
              refine g_step rfl (s_val (v_pick_t rfl rfl) rfl rfl ?_)
              refine g_step rfl (s_val (v_move rfl) rfl rfl ?_)
              refine g_split 110 rfl (fun hg110 => ?_) (fun hg110 => ?_)
              · try simp only [decide_eq_true_eq, decide_eq_false_iff_not, Bool.not_eq_true', Bool.not_eq_false', Bool.not_eq_eq_eq_not, Bool.not_true, Bool.not_false, Bool.and_eq_true, Bool.or_eq_true, Bool.or_eq_false_iff, beq_iff_eq, beq_eq_false_iff_ne, ne_eq, Int.not_lt, Int.not_le, Decidable.not_not] at hg110
                refine g_step_yes (j := 6) (t := 110) rfl rfl rfl rfl (s_val (v_move rfl) rfl rfl ?_)
                refine g_step_yes (j := 6) (t := 110) rfl rfl rfl rfl (s_val (v_move rfl) rfl rfl ?_)
                refine g_step_yes (j := 6) (t := 110) rfl rfl rfl rfl (s_callp rfl rfl rfl (evCount_ok (sinceE ls) k _ _ rfl (by rw [hse]; omega)) ?_)
                rintro _ rfl
                refine g_step_yes (j := 6) (t := 110) rfl rfl rfl rfl (s_val (v_move rfl) rfl rfl ?_)
                refine g_step_yes (j := 6) (t := 110) rfl rfl rfl rfl (s_val (v_eql rfl rfl) rfl rfl ?_)
                refine g_step rfl (s_val (v_pick_t rfl rfl) rfl rfl ?_)
                refine g_step rfl (s_val (v_move rfl) rfl rfl ?_)
                refine g_split 117 rfl (fun hg117 => ?_) (fun hg117 => ?_)
                · try simp only [decide_eq_true_eq, decide_eq_false_iff_not, Bool.not_eq_true', Bool.not_eq_false', Bool.not_eq_eq_eq_not, Bool.not_true, Bool.not_false, Bool.and_eq_true, Bool.or_eq_true, Bool.or_eq_false_iff, beq_iff_eq, beq_eq_false_iff_ne, ne_eq, Int.not_lt, Int.not_le, Decidable.not_not] at hg117
                  refine g_step_yes (j := 13) (t := 117) rfl rfl rfl rfl (s_val (v_move rfl) rfl rfl ?_)
                  refine g_step_yes (j := 13) (t := 117) rfl rfl rfl rfl (s_callp rfl rfl rfl (evName_ok _ _) ?_)
                  rintro _ rfl
                  refine g_step_yes (j := 13) (t := 117) rfl rfl rfl rfl (s_val (v_move rfl) rfl rfl ?_)
                  refine g_step_yes (j := 13) (t := 117) rfl rfl rfl rfl (s_val (v_seq rfl rfl) rfl rfl ?_)
                  refine g_step rfl (s_val (v_pick_t rfl rfl) rfl rfl ?_)
                  refine g_step rfl (s_val (v_move rfl) rfl rfl ?_)
                  refine g_split 123 rfl (fun hg123 => ?_) (fun hg123 => ?_)
                  · try simp only [decide_eq_true_eq, decide_eq_false_iff_not, Bool.not_eq_true', Bool.not_eq_false', Bool.not_eq_eq_eq_not, Bool.not_true, Bool.not_false, Bool.and_eq_true, Bool.or_eq_true, Bool.or_eq_false_iff, beq_iff_eq, beq_eq_false_iff_ne, ne_eq, Int.not_lt, Int.not_le, Decidable.not_not] at hg123
                    refine g_step_yes (j := 19) (t := 123) rfl rfl rfl rfl (s_callp rfl rfl rfl (awake44_ok _) ?_)
                    rintro _ rfl
                    refine g_step rfl (s_val (v_pick_t rfl rfl) rfl rfl ?_)
                    refine g_step rfl (s_val (v_assign rfl) rfl rfl ?_)
                    refine g_nil ?_
                    refine g_next hK30 ?_
                    first | refine g_keep [4] [] [] (keep_cons rfl keep_nil) lkeep_nil keep_nil rfl ?_ | refine g_keep [4] [] [] rfl rfl rfl rfl ?_
                    refine g_ret ?_
                    refine g_end1 (.inl rfl) Try.results4 (.tmp rfl) [] (ASub.refl _) (by first | exact AHeap.sub_refl _ | exact hown.sub) (fun p hp => by cases hp) ⟨rfl, ?_⟩
                    rfl
                  · exfalso; (try simp only [decide_eq_true_eq, decide_eq_false_iff_not, Bool.not_eq_true', Bool.not_eq_false', Bool.not_eq_eq_eq_not, Bool.not_true, Bool.not_false, Bool.and_eq_true, Bool.or_eq_true, Bool.or_eq_false_iff, beq_iff_eq, beq_eq_false_iff_ne, ne_eq, Int.not_lt, Int.not_le, Decidable.not_not] at hg123); simp [hnm] at hg123
                · exfalso; (try simp only [decide_eq_true_eq, decide_eq_false_iff_not, Bool.not_eq_true', Bool.not_eq_false', Bool.not_eq_eq_eq_not, Bool.not_true, Bool.not_false, Bool.and_eq_true, Bool.or_eq_true, Bool.or_eq_false_iff, beq_iff_eq, beq_eq_false_iff_ne, ne_eq, Int.not_lt, Int.not_le, Decidable.not_not] at hg117); rw [hse, hw] at hg117; simp at hg117
              · exfalso; (try simp only [decide_eq_true_eq, decide_eq_false_iff_not, Bool.not_eq_true', Bool.not_eq_false', Bool.not_eq_eq_eq_not, Bool.not_true, Bool.not_false, Bool.and_eq_true, Bool.or_eq_true, Bool.or_eq_false_iff, beq_iff_eq, beq_eq_false_iff_ne, ne_eq, Int.not_lt, Int.not_le, Decidable.not_not] at hg110); simp [hse] at hg110
            · exfalso; (try simp only [decide_eq_true_eq, decide_eq_false_iff_not, Bool.not_eq_true', Bool.not_eq_false', Bool.not_eq_eq_eq_not, Bool.not_true, Bool.not_false, Bool.and_eq_true, Bool.or_eq_true, Bool.or_eq_false_iff, beq_iff_eq, beq_eq_false_iff_ne, ne_eq, Int.not_lt, Int.not_le, Decidable.not_not] at hg105); simp [hyes] at hg105

end Go.Proofs.Ytgipbhfblmblcaa

import Derived.Test.YtmnngdbcfdnefaaFacts
import Derived.Test.YtmnngdbcfdnefaaPDice
set_option linter.unusedSimpArgs false
set_option linter.unusedVariables false
set_option maxRecDepth 100000
namespace Go.Proofs.Ytmnngdbcfdnefaa
open Go Go.Proofs.Ytmnngdbcfdnefaa.AM
theorem low_ok (x n : Int) (G : AHeap) (hn : 1 ≤ n) (hn2 : n ≤ 9223372036854775807) : PCalls Try.prog 20 [.int .i64 x, .int .i64 n] G (fun r => r = .int .i64 (lowI x n)) := by
  refine LCalls.intro 15 fi20 rfl Try.ntmps20 rfl (fun _ h => h.elim) (fun H hH w0 hw0 => ?_)
  refine g_seq (fun K0 hK0 => ?_)
  refine g_region ?_
  refine g_step rfl (s_val (v_assign rfl) rfl rfl ?_)
  refine g_nil ?_
  refine g_next hK0 ?_
  refine g_seq (fun K1 hK1 => ?_)
  refine g_region ?_
  refine g_step rfl (s_val (v_move rfl) rfl rfl ?_)
  refine g_step rfl (s_val (v_move rfl) rfl rfl ?_)
  refine g_step rfl (s_val (v_rem rfl rfl (by omega)) rfl rfl ?_)
  refine g_step rfl (s_val (v_assign rfl) rfl rfl ?_)
  refine g_nil ?_
  refine g_next hK1 ?_
  refine g_seq (fun K2 hK2 => ?_)
  refine g_seq (fun K3 hK3 => ?_)
  refine g_region ?_
  refine g_step rfl (s_val (v_move rfl) rfl rfl ?_)
  refine g_step rfl (s_val (v_lss rfl rfl) rfl rfl ?_)
  refine g_nil ?_
  refine g_next hK3 ?_
  refine g_cond rfl (fun hc10 => ?_) (fun hc10 => ?_)
  · try simp only [decide_eq_true_eq, decide_eq_false_iff_not, Bool.not_eq_true', Bool.not_eq_false', Bool.not_eq_eq_eq_not, Bool.not_true, Bool.not_false, Bool.and_eq_true, Bool.or_eq_true, Bool.or_eq_false_iff, beq_iff_eq, beq_eq_false_iff_ne, ne_eq, Int.not_lt, Int.not_le, Decidable.not_not] at hc10
    have := tmod_range x n hn
    refine g_seq (fun K4 hK4 => ?_)
    refine g_region ?_
    refine g_step rfl (s_val (v_move rfl) rfl rfl ?_)
    refine g_step rfl (s_val (v_move rfl) rfl rfl ?_)
    refine g_step rfl (s_val (v_add rfl rfl (by omega)) rfl rfl ?_)
    refine g_step rfl (s_val (v_assign rfl) rfl rfl ?_)
    refine g_nil ?_
    refine g_next hK4 ?_
    refine g_ret ?_
    refine g_then_ret ?_
    refine g_end1 (.inl rfl) Try.results20 (.tmp rfl) [] (ASub.refl _) (AHeap.sub_refl _) (fun p hp => by cases hp) ⟨rfl, ?_⟩
    simp [lowI]; omega
  · try simp only [decide_eq_true_eq, decide_eq_false_iff_not, Bool.not_eq_true', Bool.not_eq_false', Bool.not_eq_eq_eq_not, Bool.not_true, Bool.not_false, Bool.and_eq_true, Bool.or_eq_true, Bool.or_eq_false_iff, beq_iff_eq, beq_eq_false_iff_ne, ne_eq, Int.not_lt, Int.not_le, Decidable.not_not] at hc10
    have := tmod_range x n hn
    refine g_skip ?_
    refine g_next hK2 ?_
    refine g_seq (fun K5 hK5 => ?_)
    refine g_region ?_
    refine g_step rfl (s_val (v_move rfl) rfl rfl ?_)
    refine g_step rfl (s_val (v_assign rfl) rfl rfl ?_)
    refine g_nil ?_
    refine g_next hK5 ?_
    refine g_ret ?_
    refine g_end1 (.inl rfl) Try.results20 (.tmp rfl) [] (ASub.refl _) (AHeap.sub_refl _) (fun p hp => by cases hp) ⟨rfl, ?_⟩
    simp [lowI]; omega

theorem count_ok (l : List Int) (va : AV) (x : Int) (G : AHeap) (hv : va.view G = some (l.map (.int .i64))) (hl : l.length ≤ 1000000) : PCalls Try.prog 18 [va, .int .i64 x] G (fun r => r = .int .i64 (l.count x)) := by
  refine LCalls.intro 22 fi18 rfl Try.ntmps18 rfl (fun _ h => h.elim) (fun H hH w0 hw0 => ?_)
  have hv := view_sub hH hv
  refine g_seq (fun K0 hK0 => ?_)
  refine g_region ?_
  refine g_step rfl (s_val (v_assign rfl) rfl rfl ?_)
  refine g_nil ?_
  refine g_next hK0 ?_
  refine g_seq (fun K1 hK1 => ?_)
  refine g_region ?_
  refine g_step rfl (s_val (v_assign rfl) rfl rfl ?_)
  refine g_nil ?_
  refine g_next hK1 ?_
  refine g_seq (fun K2 hK2 => ?_)
  refine g_seq (fun K3 hK3 => ?_)
  refine g_region ?_
  refine g_step rfl (s_val (v_assign rfl) rfl rfl ?_)
  refine g_nil ?_
  refine g_next hK3 ?_
  refine g_block ?_
  refine g_keep [0, 1, 5, 6] [] [] rfl rfl rfl rfl ?_
  refine g_loop (fun n env L B G => ∃ k : Nat, k ≤ l.length ∧ n = l.length - k ∧ env = [(0, va), (1, .int .i64 x), (5, .int .i64 ((l.take k).count x : Nat)), (6, .int .i64 (k : Int))] ∧ L = [] ∧ B = [] ∧ G = H) l.length ⟨0, by omega, rfl, rfl, rfl, rfl, rfl⟩ (fun n env L B G hI => ?_)
  obtain ⟨k, hk, rfl, rfl, rfl, rfl, rfl⟩ := hI
  refine g_seq (fun K4 hK4 => ?_)
  refine g_seq (fun K5 hK5 => ?_)
  refine g_region ?_
  refine g_step rfl (s_val (v_move rfl) rfl rfl ?_)
  refine g_step rfl (s_val (v_move rfl) rfl rfl ?_)
  refine g_step rfl (s_val (v_len ty22 rfl (by first | rfl | assumption) (by first | exact List.length_map .. | rfl)) rfl rfl ?_)
  refine g_step rfl (s_val (v_lss rfl rfl) rfl rfl ?_)
  refine g_nil ?_
  refine g_next hK5 ?_
  refine g_cond rfl (fun hc10 => ?_) (fun hc10 => ?_)
  · try simp only [decide_eq_true_eq, decide_eq_false_iff_not, Bool.not_eq_true', Bool.not_eq_false', Bool.not_eq_eq_eq_not, Bool.not_true, Bool.not_false, Bool.and_eq_true, Bool.or_eq_true, Bool.or_eq_false_iff, beq_iff_eq, beq_eq_false_iff_ne, ne_eq, Int.not_lt, Int.not_le, Decidable.not_not] at hc10
    obtain ⟨y, hx⟩ := get_some (l := l) (k := k) (by omega)
    have hcnt : (l.take k).count x ≤ k := Nat.le_trans List.count_le_length (by simp; omega)
    refine g_skip ?_
    refine g_next hK4 ?_
    refine g_seq (fun K6 hK6 => ?_)
    refine g_block ?_
    refine g_seq (fun K7 hK7 => ?_)
    refine g_region ?_
    refine g_step rfl (s_val (v_move rfl) rfl rfl ?_)
    refine g_step rfl (s_val (v_move rfl) rfl rfl ?_)
    refine g_step rfl (s_val (v_indexAddr ty22 ty3 rfl rfl (by first | rfl | assumption) (by first | rfl | exact (rfl : (0 : Int) = ((0 : Nat) : Int)) | exact (Int.toNat_of_nonneg (by omega)).symm) (by first | assumption | exact map_get (by assumption) | rfl) rfl) rfl rfl ?_)
    refine g_step rfl (s_val (by first | exact v_load ty3 rfl rfl (by first | rfl | assumption) (by first | assumption | exact map_get (by assumption) | rfl) rfl | exact v_load_box ty3 rfl rfl (by assumption) rfl) rfl rfl ?_)
    refine g_step rfl (s_val (v_move rfl) rfl rfl ?_)
    refine g_step rfl (s_val (v_eql rfl rfl) rfl rfl ?_)
    refine g_nil ?_
    refine g_next hK7 ?_
    refine g_cond rfl (fun hc18 => ?_) (fun hc18 => ?_)
    · try simp only [decide_eq_true_eq, decide_eq_false_iff_not, Bool.not_eq_true', Bool.not_eq_false', Bool.not_eq_eq_eq_not, Bool.not_true, Bool.not_false, Bool.and_eq_true, Bool.or_eq_true, Bool.or_eq_false_iff, beq_iff_eq, beq_eq_false_iff_ne, ne_eq, Int.not_lt, Int.not_le, Decidable.not_not] at hc18
      refine g_region ?_
      refine g_step rfl (s_val (v_move rfl) rfl rfl ?_)
      refine g_step rfl (s_val (v_add rfl rfl (by omega)) rfl rfl ?_)
      refine g_step rfl (s_val (v_assign rfl) rfl rfl ?_)
      refine g_nil ?_
      refine g_block_normal ?_
      refine g_next hK6 ?_
      refine g_region ?_
      refine g_step rfl (s_val (v_move rfl) rfl rfl ?_)
      refine g_step rfl (s_val (v_add rfl rfl (by omega)) rfl rfl ?_)
      refine g_step rfl (s_val (v_assign rfl) rfl rfl ?_)
      refine g_nil ?_
      refine g_keep [0, 1, 5, 6] [] [] rfl rfl rfl rfl ?_
      exact g_round _ (by omega) ⟨k + 1, by omega, rfl, by first | (rw [count_take hx, if_pos hc18]; rfl) | (rw [count_take hx, if_neg hc18]; rfl), rfl, rfl, rfl⟩
    · try simp only [decide_eq_true_eq, decide_eq_false_iff_not, Bool.not_eq_true', Bool.not_eq_false', Bool.not_eq_eq_eq_not, Bool.not_true, Bool.not_false, Bool.and_eq_true, Bool.or_eq_true, Bool.or_eq_false_iff, beq_iff_eq, beq_eq_false_iff_ne, ne_eq, Int.not_lt, Int.not_le, Decidable.not_not] at hc18
      refine g_skip ?_
      refine g_block_normal ?_
      refine g_next hK6 ?_
      refine g_region ?_
      refine g_step rfl (s_val (v_move rfl) rfl rfl ?_)
      refine g_step rfl (s_val (v_add rfl rfl (by omega)) rfl rfl ?_)
      refine g_step rfl (s_val (v_assign rfl) rfl rfl ?_)
      refine g_nil ?_
      refine g_keep [0, 1, 5, 6] [] [] rfl rfl rfl rfl ?_
      exact g_round _ (by omega) ⟨k + 1, by omega, rfl, by first | (rw [count_take hx, if_pos hc18]; rfl) | (rw [count_take hx, if_neg hc18]; rfl), rfl, rfl, rfl⟩
  · try simp only [decide_eq_true_eq, decide_eq_false_iff_not, Bool.not_eq_true', Bool.not_eq_false', Bool.not_eq_eq_eq_not, Bool.not_true, Bool.not_false, Bool.and_eq_true, Bool.or_eq_true, Bool.or_eq_false_iff, beq_iff_eq, beq_eq_false_iff_ne, ne_eq, Int.not_lt, Int.not_le, Decidable.not_not] at hc10
    obtain rfl : k = l.length := by omega
    refine g_exit ?_
    refine g_then_exit ?_
    refine g_then_exit ?_
    refine g_block_same ?_
    refine g_next hK2 ?_
    refine g_seq (fun K8 hK8 => ?_)
    refine g_region ?_
    refine g_step rfl (s_val (v_move rfl) rfl rfl ?_)
    refine g_step rfl (s_val (v_assign rfl) rfl rfl ?_)
    refine g_nil ?_
    refine g_next hK8 ?_
    refine g_ret ?_
    refine g_end1 (.inl rfl) Try.results18 (.tmp rfl) [] (ASub.refl _) (AHeap.sub_refl _) (fun p hp => by cases hp) ⟨rfl, ?_⟩
    simp

theorem left_ok (p : Nat) (ds : List Int) (G : AHeap) (hG : G p = some (.box (.agg [encI ds]))) : PCalls Try.prog 19 [.box p 0] G (fun r => r = .int .i64 ds.length) := by
  refine LCalls.intro 10 fi19 rfl Try.ntmps19 rfl (fun _ h => h.elim) (fun H hH w0 hw0 => ?_)
  have hG := hH _ _ hG
  refine g_seq (fun K0 hK0 => ?_)
  refine g_region ?_
  refine g_step rfl (s_val (v_assign rfl) rfl rfl ?_)
  refine g_nil ?_
  refine g_next hK0 ?_
  refine g_seq (fun K1 hK1 => ?_)
  refine g_seq (fun K2 hK2 => ?_)
  refine g_region ?_
  refine g_step rfl (s_val (v_move rfl) rfl rfl ?_)
  refine g_step rfl (s_val (by first | exact v_ptr_eql_nil ty24 rfl rfl rfl | exact v_nil_eql_nil ty24 rfl rfl) rfl rfl ?_)
  refine g_nil ?_
  refine g_next hK2 ?_
  refine g_cond rfl (fun hc4 => ?_) (fun hc4 => ?_)
  · exfalso; (try simp only [decide_eq_true_eq, decide_eq_false_iff_not, Bool.not_eq_true', Bool.not_eq_false', Bool.not_eq_eq_eq_not, Bool.not_true, Bool.not_false, Bool.and_eq_true, Bool.or_eq_true, Bool.or_eq_false_iff, beq_iff_eq, beq_eq_false_iff_ne, ne_eq, Int.not_lt, Int.not_le, Decidable.not_not] at hc4); exact absurd hc4 (by decide)
  · try simp only [decide_eq_true_eq, decide_eq_false_iff_not, Bool.not_eq_true', Bool.not_eq_false', Bool.not_eq_eq_eq_not, Bool.not_true, Bool.not_false, Bool.and_eq_true, Bool.or_eq_true, Bool.or_eq_false_iff, beq_iff_eq, beq_eq_false_iff_ne, ne_eq, Int.not_lt, Int.not_le, Decidable.not_not] at hc4
    refine g_skip ?_
    refine g_next hK1 ?_
    refine g_seq (fun K3 hK3 => ?_)
    refine g_region ?_
    refine g_step rfl (s_val (v_move rfl) rfl rfl ?_)
    refine g_step rfl (s_val (v_nilCheck rfl rfl) rfl rfl ?_)
    refine g_step rfl (s_val (by first | exact v_fieldAddr ty84 fo84_0 ty22 rfl | exact v_fieldAddr_box ty84 fo84_0 ty22 rfl) rfl rfl ?_)
    refine g_step rfl (s_val (by first | exact v_load ty22 rfl rfl (by first | rfl | assumption) (by first | assumption | exact map_get (by assumption) | rfl) rfl | exact v_load_box ty22 rfl rfl (by assumption) rfl) rfl rfl ?_)
    refine g_step rfl (s_val (v_len ty22 rfl (by first | rfl | assumption) (by first | exact List.length_map .. | rfl)) rfl rfl ?_)
    refine g_step rfl (s_val (v_assign rfl) rfl rfl ?_)
    refine g_nil ?_
    refine g_next hK3 ?_
    refine g_ret ?_
    refine g_end1 (.inl rfl) Try.results19 (.tmp rfl) [] (ASub.refl _) (AHeap.sub_refl _) (fun p hp => by cases hp) ⟨rfl, ?_⟩
    simp

theorem take_ok (p : Nat) (ds : List Int) (G : AHeap) (hG : G p = some (.box (.agg [encI ds]))) : LCalls Try.prog 54 [.box p 0] G (· = p) (fun _ r effs => r = .int .i64 (ds.headD 0) ∧ effs = [(p, .box (.agg [encI ds.tail]))]) := by
  refine LCalls.intro 29 fi54 rfl Try.ntmps54 rfl (fun b hb => by subst hb; rw [hG]; simp) (fun H hH w0 hw0 => ?_)
  have hG1 := hH _ _ hG
  refine g_seq (fun K0 hK0 => ?_)
  refine g_region ?_
  refine g_step rfl (s_val (v_assign rfl) rfl rfl ?_)
  refine g_nil ?_
  refine g_next hK0 ?_
  refine g_seq (fun K1 hK1 => ?_)
  refine g_seq (fun K2 hK2 => ?_)
  refine g_region ?_
  refine g_step rfl (s_val (v_move rfl) rfl rfl ?_)
  refine g_step rfl (s_val (by first | exact v_ptr_eql_nil ty24 rfl rfl rfl | exact v_nil_eql_nil ty24 rfl rfl) rfl rfl ?_)
  refine g_step rfl (s_val (v_move rfl) rfl rfl ?_)
  refine g_split 6 rfl (fun hg6 => ?_) (fun hg6 => ?_)
  · exfalso; (try simp only [decide_eq_true_eq, decide_eq_false_iff_not, Bool.not_eq_true', Bool.not_eq_false', Bool.not_eq_eq_eq_not, Bool.not_true, Bool.not_false, Bool.and_eq_true, Bool.or_eq_true, Bool.or_eq_false_iff, beq_iff_eq, beq_eq_false_iff_ne, ne_eq, Int.not_lt, Int.not_le, Decidable.not_not] at hg6); exact absurd hg6 (by decide)
  · try simp only [decide_eq_true_eq, decide_eq_false_iff_not, Bool.not_eq_true', Bool.not_eq_false', Bool.not_eq_eq_eq_not, Bool.not_true, Bool.not_false, Bool.and_eq_true, Bool.or_eq_true, Bool.or_eq_false_iff, beq_iff_eq, beq_eq_false_iff_ne, ne_eq, Int.not_lt, Int.not_le, Decidable.not_not] at hg6
    refine g_step_yes (j := 2) (t := 6) rfl rfl rfl rfl (s_val (v_move rfl) rfl rfl ?_)
    refine g_step_yes (j := 2) (t := 6) rfl rfl rfl rfl (s_val (v_nilCheck rfl rfl) rfl rfl ?_)
    refine g_step_yes (j := 2) (t := 6) rfl rfl rfl rfl (s_val (by first | exact v_fieldAddr ty84 fo84_0 ty22 rfl | exact v_fieldAddr_box ty84 fo84_0 ty22 rfl) rfl rfl ?_)
    refine g_step_yes (j := 2) (t := 6) rfl rfl rfl rfl (s_val (by first | exact v_load ty22 rfl rfl (by first | rfl | assumption) (by first | assumption | exact map_get (by assumption) | rfl) rfl | exact v_load_box ty22 rfl rfl (by assumption) rfl) rfl rfl ?_)
    refine g_step_yes (j := 2) (t := 6) rfl rfl rfl rfl (s_val (v_len ty22 rfl (by first | rfl | assumption) (by first | exact List.length_map .. | rfl)) rfl rfl ?_)
    refine g_step_yes (j := 2) (t := 6) rfl rfl rfl rfl (s_val (v_eql rfl rfl) rfl rfl ?_)
    refine g_step rfl (s_val (v_pick_f rfl rfl) rfl rfl ?_)
    refine g_nil ?_
    refine g_next hK2 ?_
    refine g_cond rfl (fun hc13 => ?_) (fun hc13 => ?_)
    · try simp only [decide_eq_true_eq, decide_eq_false_iff_not, Bool.not_eq_true', Bool.not_eq_false', Bool.not_eq_eq_eq_not, Bool.not_true, Bool.not_false, Bool.and_eq_true, Bool.or_eq_true, Bool.or_eq_false_iff, beq_iff_eq, beq_eq_false_iff_ne, ne_eq, Int.not_lt, Int.not_le, Decidable.not_not] at hc13
      obtain rfl : ds = [] := List.length_eq_zero_iff.1 (by simpa using hc13)
      refine g_seq (fun K3 hK3 => ?_)
      refine g_region ?_
      refine g_step rfl (s_val (v_assign rfl) rfl rfl ?_)
      refine g_nil ?_
      refine g_next hK3 ?_
      refine g_ret ?_
      refine g_then_ret ?_
      refine g_end1 (.inl rfl) Try.results54 (.tmp rfl) [(p, .box (.agg [encI []]))] (ASub.refl _) (fun b y hb => by rw [show setAll H [(p, ARow.box (.agg [encI []]))] = H from AHeap.set_same _ _ _ hG1] at hb; exact hb) (fun q hq => .inl (by simp at hq; subst hq; rw [hG]; simp)) ⟨rfl, rfl⟩
    · try simp only [decide_eq_true_eq, decide_eq_false_iff_not, Bool.not_eq_true', Bool.not_eq_false', Bool.not_eq_eq_eq_not, Bool.not_true, Bool.not_false, Bool.and_eq_true, Bool.or_eq_true, Bool.or_eq_false_iff, beq_iff_eq, beq_eq_false_iff_ne, ne_eq, Int.not_lt, Int.not_le, Decidable.not_not] at hc13
      obtain ⟨x, ds, rfl⟩ : ∃ x t, ds = x :: t := by cases ds with | nil => simp at hc13 | cons x t => exact ⟨x, t, rfl⟩
      refine g_skip ?_
      refine g_next hK1 ?_
      refine g_seq (fun K4 hK4 => ?_)
      refine g_region ?_
      refine g_step rfl (s_val (v_move rfl) rfl rfl ?_)
      refine g_step rfl (s_val (v_nilCheck rfl rfl) rfl rfl ?_)
      refine g_step rfl (s_val (by first | exact v_fieldAddr ty84 fo84_0 ty22 rfl | exact v_fieldAddr_box ty84 fo84_0 ty22 rfl) rfl rfl ?_)
      refine g_step rfl (s_val (by first | exact v_load ty22 rfl rfl (by first | rfl | assumption) (by first | assumption | exact map_get (by assumption) | rfl) rfl | exact v_load_box ty22 rfl rfl (by assumption) rfl) rfl rfl ?_)
      refine g_step rfl (s_val (v_indexAddr ty22 ty3 rfl rfl (by first | rfl | assumption) (by first | rfl | exact (rfl : (0 : Int) = ((0 : Nat) : Int)) | exact (Int.toNat_of_nonneg (by omega)).symm) (by first | assumption | exact map_get (by assumption) | rfl) rfl) rfl rfl ?_)
      refine g_step rfl (s_val (by first | exact v_load ty3 rfl rfl (by first | rfl | assumption) (by first | assumption | exact map_get (by assumption) | rfl) rfl | exact v_load_box ty3 rfl rfl (by assumption) rfl) rfl rfl ?_)
      refine g_step rfl (s_val (v_assign rfl) rfl rfl ?_)
      refine g_nil ?_
      refine g_next hK4 ?_
      refine g_seq (fun K5 hK5 => ?_)
      refine g_region ?_
      refine g_step rfl (s_val (v_move rfl) rfl rfl ?_)
      refine g_step rfl (s_val (v_move rfl) rfl rfl ?_)
      refine g_step rfl (s_val (v_nilCheck rfl rfl) rfl rfl ?_)
      refine g_step rfl (s_val (by first | exact v_fieldAddr ty84 fo84_0 ty22 rfl | exact v_fieldAddr_box ty84 fo84_0 ty22 rfl) rfl rfl ?_)
      refine g_step rfl (s_val (by first | exact v_load ty22 rfl rfl (by first | rfl | assumption) (by first | assumption | exact map_get (by assumption) | rfl) rfl | exact v_load_box ty22 rfl rfl (by assumption) rfl) rfl rfl ?_)
      refine g_step rfl (s_val (v_slice_imm (lo := 1) (hi := (ds.length + 1)) (m := ds.map (.int .i64)) ty22 ty3 rfl rfl rfl (by first | rfl | (exact (rfl : (0 : Int) = ((0 : Nat) : Int))) | omega | (simp <;> omega)) (by first | rfl | (exact (rfl : (0 : Int) = ((0 : Nat) : Int))) | omega | (simp <;> omega)) (by first | omega | (simp <;> omega)) (by first | omega | (simp <;> omega)) (by refine Even.map _ ?_ _; intro _; rfl) (by first | rfl | simp [List.take_of_length_le])) rfl rfl ?_)
      refine g_step rfl (s_val (v_nilCheck rfl rfl) rfl rfl ?_)
      refine g_step rfl (s_val (by first | exact v_fieldAddr ty84 fo84_0 ty22 rfl | exact v_fieldAddr_box ty84 fo84_0 ty22 rfl) rfl rfl ?_)
      refine g_step rfl (s_store_box (new := .agg [encI ds]) ty22 rfl rfl (by assumption) rfl rfl rfl rfl (.inl rfl) ?_)
      refine g_nil ?_
      refine g_next hK5 ?_
      refine g_seq (fun K6 hK6 => ?_)
      refine g_region ?_
      refine g_step rfl (s_val (v_move rfl) rfl rfl ?_)
      refine g_step rfl (s_val (v_assign rfl) rfl rfl ?_)
      refine g_nil ?_
      refine g_next hK6 ?_
      refine g_ret ?_
      refine g_end1 (.inl rfl) Try.results54 (.tmp rfl) [(p, .box (.agg [encI ds]))] (ASub.refl _) (AHeap.sub_refl _) (fun q hq => .inl (by simp at hq; subst hq; rw [hG]; simp)) ⟨rfl, rfl⟩

theorem next_ok (p : Nat) (ds : List Int) (n : Int) (G : AHeap) (hG : G p = some (.box (.agg [encI ds]))) (hn2 : n ≤ 9223372036854775807) : LCalls Try.prog 21 [.box p 0, .int .i64 n] G (· = p) (fun _ r effs => r = .int .i64 (dNext ds n) ∧ effs = [(p, .box (.agg [encI (dRest ds n)]))]) := by
  refine LCalls.intro 18 fi21 rfl Try.ntmps21 rfl (fun b hb => by subst hb; rw [hG]; simp) (fun H hH w0 hw0 => ?_)
  have hG1 := hH _ _ hG
  refine g_seq (fun K0 hK0 => ?_)
  refine g_region ?_
  refine g_step rfl (s_val (v_assign rfl) rfl rfl ?_)
  refine g_nil ?_
  refine g_next hK0 ?_
  refine g_seq (fun K1 hK1 => ?_)
  refine g_seq (fun K2 hK2 => ?_)
  refine g_region ?_
  refine g_step rfl (s_val (v_move rfl) rfl rfl ?_)
  refine g_step rfl (s_val (v_lss rfl rfl) rfl rfl ?_)
  refine g_nil ?_
  refine g_next hK2 ?_
  refine g_cond rfl (fun hc7 => ?_) (fun hc7 => ?_)
  · try simp only [decide_eq_true_eq, decide_eq_false_iff_not, Bool.not_eq_true', Bool.not_eq_false', Bool.not_eq_eq_eq_not, Bool.not_true, Bool.not_false, Bool.and_eq_true, Bool.or_eq_true, Bool.or_eq_false_iff, beq_iff_eq, beq_eq_false_iff_ne, ne_eq, Int.not_lt, Int.not_le, Decidable.not_not] at hc7
    refine g_seq (fun K3 hK3 => ?_)
    refine g_region ?_
    refine g_step rfl (s_val (v_assign rfl) rfl rfl ?_)
    refine g_nil ?_
    refine g_next hK3 ?_
    refine g_ret ?_
    refine g_then_ret ?_
    refine g_end1 (.inl rfl) Try.results21 (.tmp rfl) [(p, .box (.agg [encI (dRest ds n)]))] (ASub.refl _) (fun b y hb => by rw [show setAll H [(p, ARow.box (.agg [encI (dRest ds n)]))] = H from AHeap.set_same _ _ _ (by rw [dRest, if_pos hc7]; exact hG1)] at hb; exact hb) (fun q hq => .inl (by simp at hq; subst hq; rw [hG]; simp)) ⟨by rw [dNext, if_pos hc7]; rfl, rfl⟩
  · try simp only [decide_eq_true_eq, decide_eq_false_iff_not, Bool.not_eq_true', Bool.not_eq_false', Bool.not_eq_eq_eq_not, Bool.not_true, Bool.not_false, Bool.and_eq_true, Bool.or_eq_true, Bool.or_eq_false_iff, beq_iff_eq, beq_eq_false_iff_ne, ne_eq, Int.not_lt, Int.not_le, Decidable.not_not] at hc7
    have htm := tmod_range (ds.headD 0) n (by omega)
    refine g_skip ?_
    refine g_next hK1 ?_
    refine g_seq (fun K4 hK4 => ?_)
    refine g_region ?_
    refine g_step rfl (s_val (v_move rfl) rfl rfl ?_)
    refine g_step rfl (s_call rfl rfl rfl (take_ok _ _ _ (by assumption)) (fun b hb => .inl hb) ?_)
    rintro n1 r1 effs1 hn1 hdom1 ⟨rfl, rfl⟩ hok1
    refine g_step rfl (s_val (v_move rfl) rfl rfl ?_)
    refine g_step rfl (s_val (v_rem rfl rfl (by omega)) rfl rfl ?_)
    refine g_step rfl (s_val (v_assign rfl) rfl rfl ?_)
    refine g_nil ?_
    refine g_next hK4 ?_
    refine g_seq (fun K5 hK5 => ?_)
    refine g_seq (fun K6 hK6 => ?_)
    refine g_region ?_
    refine g_step rfl (s_val (v_move rfl) rfl rfl ?_)
    refine g_step rfl (s_val (v_lss rfl rfl) rfl rfl ?_)
    refine g_nil ?_
    refine g_next hK6 ?_
    refine g_cond rfl (fun hc13 => ?_) (fun hc13 => ?_)
    · try simp only [decide_eq_true_eq, decide_eq_false_iff_not, Bool.not_eq_true', Bool.not_eq_false', Bool.not_eq_eq_eq_not, Bool.not_true, Bool.not_false, Bool.and_eq_true, Bool.or_eq_true, Bool.or_eq_false_iff, beq_iff_eq, beq_eq_false_iff_ne, ne_eq, Int.not_lt, Int.not_le, Decidable.not_not] at hc13
      refine g_region ?_
      refine g_step rfl (s_val (v_move rfl) rfl rfl ?_)
      refine g_step rfl (s_val (v_move rfl) rfl rfl ?_)
      refine g_step rfl (s_val (v_add rfl rfl (by omega)) rfl rfl ?_)
      refine g_step rfl (s_val (v_assign rfl) rfl rfl ?_)
      refine g_nil ?_
      refine g_next hK5 ?_
      refine g_seq (fun K7 hK7 => ?_)
      refine g_region ?_
      refine g_step rfl (s_val (v_move rfl) rfl rfl ?_)
      refine g_step rfl (s_val (v_assign rfl) rfl rfl ?_)
      refine g_nil ?_
      refine g_next hK7 ?_
      refine g_ret ?_
      refine g_end1 (.inl rfl) Try.results21 (.tmp rfl) [(p, .box (.agg [encI (dRest ds n)]))] (ASub.refl _) (by rw [dRest, if_neg (by omega)]; exact AHeap.sub_refl _) (fun q hq => .inl (by simp at hq; subst hq; rw [hG]; simp)) ⟨by first | (rw [dNext, if_neg (by omega), lowI, if_pos hc13]) | (rw [dNext, if_neg (by omega), lowI, if_neg (by omega)]), rfl⟩
    · try simp only [decide_eq_true_eq, decide_eq_false_iff_not, Bool.not_eq_true', Bool.not_eq_false', Bool.not_eq_eq_eq_not, Bool.not_true, Bool.not_false, Bool.and_eq_true, Bool.or_eq_true, Bool.or_eq_false_iff, beq_iff_eq, beq_eq_false_iff_ne, ne_eq, Int.not_lt, Int.not_le, Decidable.not_not] at hc13
      refine g_skip ?_
      refine g_next hK5 ?_
      refine g_seq (fun K8 hK8 => ?_)
      refine g_region ?_
      refine g_step rfl (s_val (v_move rfl) rfl rfl ?_)
      refine g_step rfl (s_val (v_assign rfl) rfl rfl ?_)
      refine g_nil ?_
      refine g_next hK8 ?_
      refine g_ret ?_
      refine g_end1 (.inl rfl) Try.results21 (.tmp rfl) [(p, .box (.agg [encI (dRest ds n)]))] (ASub.refl _) (by rw [dRest, if_neg (by omega)]; exact AHeap.sub_refl _) (fun q hq => .inl (by simp at hq; subst hq; rw [hG]; simp)) ⟨by first | (rw [dNext, if_neg (by omega), lowI, if_pos hc13]) | (rw [dNext, if_neg (by omega), lowI, if_neg (by omega)]), rfl⟩

theorem new_ok (l : List Int) (va : AV) (G : AHeap) (hv : va.view G = some (l.map (.int .i64))) (hl : l.length ≤ 1000000) : LCalls Try.prog 16 [va] G noD (fun n r effs => ∃ p, n ≤ p ∧ r = .box p 0 ∧ effs = [(p, .box (.agg [encI l]))]) := by
  refine LCalls.intro 7 fi16 rfl Try.ntmps16 rfl (fun _ h => h.elim) (fun H hH w0 hw0 => ?_)
  have hv := view_sub hH hv
  refine g_seq (fun K0 hK0 => ?_)
  refine g_region ?_
  refine g_step rfl (s_val (v_assign rfl) rfl rfl ?_)
  refine g_nil ?_
  refine g_next hK0 ?_
  refine g_seq (fun K1 hK1 => ?_)
  refine g_region ?_
  refine g_step rfl (s_val (v_move rfl) rfl rfl ?_)
  refine g_step rfl (s_append (l := _) (m := _) ty22 ty3 rfl rfl (Own.nil ..) rfl (by first | rfl | assumption) (by refine Even.map _ ?_ _; intro _; rfl) (by intro x hx; obtain ⟨_, _, rfl⟩ := List.mem_map.1 hx; rfl) rfl (by simp; omega) (by simp; omega) ?_)
  intro av4 G4 hown4
  refine g_freeze 4 rfl hown4 ?_
  refine g_step rfl (s_val (v_build (vs := [(0, _)]) (zs := [.nil0]) (cells := [_]) ty84 pl84 rfl rfl rfl) rfl rfl ?_)
  refine g_step rfl (s_box rfl rfl rfl rfl ?_)
  refine g_expose 6 rfl rfl (fun r6 hr6 hw6 => ?_)
  refine g_step rfl (s_val (v_assign rfl) rfl rfl ?_)
  refine g_nil ?_
  refine g_next hK1 ?_
  refine g_ret ?_
  refine g_end1 (.inl rfl) Try.results16 (.tmp rfl) [(r6, .box (.agg [encI l]))] (ASub.refl _) (AHeap.sub_refl _) (fun q hq => .inr (by simp at hq; subst hq; exact hw6)) ⟨r6, hw6, rfl, rfl⟩

theorem change_ok (r n : Nat) (l : List Int) (i k : Nat) (zi zk : Int) (G : AHeap) (hG : G r = some (.row 1 (l.map (.int .i64)))) (hn : n = l.length) (hi : i < l.length) (hk : k < l.length) (hzi : zi = (i : Int)) (hzk : zk = (k : Int)) : LCalls Try.prog 53 [.own r 1 0 n, .int .i64 zi, .int .i64 zk] G (· = r) (fun _ v effs => v = .tup [] ∧ effs = [(r, .row 1 ((swp l i k).map (.int .i64)))]) := by
  refine LCalls.intro 20 fi53 rfl Try.ntmps53 rfl (fun b hb => by subst hb; rw [hG]; simp) (fun H hH w0 hw0 => ?_)
  subst hn hzi hzk
  have hG1 := hH _ _ hG
  have hvw := view_row hG1 (n := l.length) (by simp)
  have hgi := map_get (f := AV.int .i64) (List.getElem?_eq_getElem hi)
  have hgk := map_get (f := AV.int .i64) (List.getElem?_eq_getElem hk)
  obtain ⟨z, hz1, hz2⟩ := swp_mid l i k hk
  refine g_draw (n := 16) (fun j => !([13, 15] : List Nat).contains j) rfl rfl ?_
  refine m_take 0 false rfl rfl (by kernel_rfl) (by kernel_rfl) (by kernel_rfl) (fun _ _ _ _ h => h) (v_move rfl) rfl rfl ?_
  refine m_take 1 false rfl rfl (by kernel_rfl) (by kernel_rfl) (by kernel_rfl) (fun _ _ _ _ h => h) (v_move rfl) rfl rfl ?_
  refine m_take 2 false rfl rfl (by kernel_rfl) (by kernel_rfl) (by kernel_rfl) (fun _ _ _ _ h => h) (v_move rfl) rfl rfl ?_
  refine m_take 3 false rfl rfl (by kernel_rfl) (by kernel_rfl) (by kernel_rfl) (fun _ _ _ _ h => h) (v_move rfl) rfl rfl ?_
  refine m_take 4 false rfl rfl (by kernel_rfl) (by kernel_rfl) (by kernel_rfl) (fun _ _ _ _ h => h) (v_move rfl) rfl rfl ?_
  refine m_take 5 false rfl rfl (by kernel_rfl) (by kernel_rfl) (by kernel_rfl) (fun _ _ _ _ h => h) (v_move rfl) rfl rfl ?_
  refine m_take 6 false rfl rfl (by kernel_rfl) (by kernel_rfl) (by kernel_rfl) (fun _ _ _ _ h => h) (v_indexAddr ty22 ty3 rfl rfl (by first | rfl | assumption) (by first | rfl | exact (rfl : (0 : Int) = ((0 : Nat) : Int)) | exact (Int.toNat_of_nonneg (by omega)).symm) (by first | assumption | exact map_get (by assumption) | rfl) rfl) rfl rfl ?_
  refine m_take 7 true rfl rfl (by kernel_rfl) (by kernel_rfl) (by kernel_rfl) (fun _ _ _ _ h => h) (by first | exact v_load ty3 rfl rfl (by first | rfl | assumption) (by first | assumption | exact map_get (by assumption) | rfl) rfl | exact v_load_box ty3 rfl rfl (by assumption) rfl) rfl rfl ?_
  refine m_take 8 false rfl rfl (by kernel_rfl) (by kernel_rfl) (by kernel_rfl) (fun _ _ _ _ h => h) (v_move rfl) rfl rfl ?_
  refine m_take 9 false rfl rfl (by kernel_rfl) (by kernel_rfl) (by kernel_rfl) (fun _ _ _ _ h => h) (v_move rfl) rfl rfl ?_
  refine m_take 10 false rfl rfl (by kernel_rfl) (by kernel_rfl) (by kernel_rfl) (fun _ _ _ _ h => h) (v_indexAddr ty22 ty3 rfl rfl (by first | rfl | assumption) (by first | rfl | exact (rfl : (0 : Int) = ((0 : Nat) : Int)) | exact (Int.toNat_of_nonneg (by omega)).symm) (by first | assumption | exact map_get (by assumption) | rfl) rfl) rfl rfl ?_
  refine m_take 11 true rfl rfl (by kernel_rfl) (by kernel_rfl) (by kernel_rfl) (fun _ _ _ _ h => h) (by first | exact v_load ty3 rfl rfl (by first | rfl | assumption) (by first | assumption | exact map_get (by assumption) | rfl) rfl | exact v_load_box ty3 rfl rfl (by assumption) rfl) rfl rfl ?_
  refine m_take 12 false rfl rfl (by kernel_rfl) (by kernel_rfl) (by kernel_rfl) (fun _ _ _ _ h => h) (v_indexAddr ty22 ty3 rfl rfl hvw (by first | rfl | exact (rfl : (0 : Int) = ((0 : Nat) : Int)) | exact (Int.toNat_of_nonneg (by omega)).symm) hgi rfl) rfl rfl ?_
  refine m_one 13 (by kernel_rfl) rfl rfl ?_
  refine sm_any rfl (s_store_row (k := i) (off := 0) (old := .int .i64 (l[i]'hi)) (new := .int .i64 (l[k]'hk)) ty3 rfl rfl hG1 (by simp) rfl rfl rfl rfl (.inl rfl) ?_)
  refine m_take 14 false rfl rfl (by kernel_rfl) (by kernel_rfl) (by kernel_rfl) (fun _ _ _ _ h => h) (v_indexAddr ty22 ty3 rfl rfl (view_row (AHeap.get_set _ _ _) (by simp)) (by first | rfl | exact (rfl : (0 : Int) = ((0 : Nat) : Int)) | exact (Int.toNat_of_nonneg (by omega)).symm) hz2 rfl) rfl rfl ?_
  refine m_one 15 (by kernel_rfl) rfl rfl ?_
  refine sm_any rfl (s_store_row (k := k) (off := 0) (old := _) (new := .int .i64 (l[i]'hi)) ty3 rfl rfl (AHeap.get_set _ _ _) hz1 rfl rfl rfl rfl (.inl rfl) ?_)
  refine m_done (by kernel_rfl) ?_
  refine g_end0 (.inr rfl) Try.results53  [(r, .row 1 ((swp l i k).map (.int .i64)))]  (by rw [AHeap.set_set, swp_row l i k hi hk]; exact AHeap.sub_refl _) (fun q hq => .inl (by simp at hq; subst hq; rw [hG]; simp)) ⟨rfl, rfl⟩

theorem shuffle_ok (p : Nat) (ds l : List Int) (va : AV) (G : AHeap) (hG : G p = some (.box (.agg [encI ds]))) (hv : va.view G = some (l.map (.int .i64))) (hl : l.length ≤ 1000000) : LCalls Try.prog 17 [.box p 0, va] G (· = p) (fun n v effs => ∃ e, OwnR n 1 v ((shuffled l ds).map (.int .i64)) e ∧ effs = e ++ [(p, .box (.agg [encI (shufRest l ds)]))]) := by
  refine LCalls.intro 24 fi17 rfl Try.ntmps17 rfl (fun b hb => by subst hb; rw [hG]; simp) (fun H hH w0 hw0 => ?_)
  have hG1 := hH _ _ hG
  have hv := view_sub hH hv
  refine g_seq (fun K0 hK0 => ?_)
  refine g_region ?_
  refine g_step rfl (s_val (v_assign rfl) rfl rfl ?_)
  refine g_nil ?_
  refine g_next hK0 ?_
  refine g_seq (fun K1 hK1 => ?_)
  refine g_region ?_
  refine g_step rfl (s_val (v_move rfl) rfl rfl ?_)
  refine g_step rfl (s_append (l := _) (m := _) ty22 ty3 rfl rfl (Own.nil ..) rfl (by first | rfl | assumption) (by refine Even.map _ ?_ _; intro _; rfl) (by intro x hx; obtain ⟨_, _, rfl⟩ := List.mem_map.1 hx; rfl) rfl (by simp; omega) (by simp; omega) ?_)
  intro av8 G8 hown8
  refine g_step rfl (s_val (v_assign rfl) rfl rfl ?_)
  refine g_nil ?_
  refine g_next hK1 ?_
  refine g_seq (fun K2 hK2 => ?_)
  refine g_seq (fun K3 hK3 => ?_)
  refine g_region ?_
  refine g_step rfl (s_val (v_move rfl) rfl rfl ?_)
  refine g_step rfl (s_val (v_len ty22 rfl (Own.view hown8) (by simp; rfl)) rfl rfl ?_)
  refine g_step rfl (s_val (v_sub_ rfl rfl (by omega)) rfl rfl ?_)
  refine g_step rfl (s_val (v_assign rfl) rfl rfl ?_)
  refine g_nil ?_
  refine g_next hK3 ?_
  refine g_block ?_
  refine g_keep [0, 5, 6] [] [] rfl rfl rfl rfl ?_
  refine g_loop (fun n env L B G => ∃ (i : Nat) (z : Int) (out ds' : List Int) (av : AV), i = n ∧ out.length = l.length ∧ ((z = (i:Int) ∧ i < out.length) ∨ (z = -1 ∧ i = 0 ∧ out = [])) ∧ env = [(0, .box p 0), (5, av), (6, .int .i64 z)] ∧ L = [] ∧ B = [] ∧ Own w0.heap.size 1 (H.set p (.box (.agg [encI ds']))) av (out.map (.int .i64)) G ∧ shuf i out ds' = shuf (l.length - 1) l ds) (l.length - 1) ⟨l.length - 1, _, l, ds, av8, rfl, rfl, by rcases l with _ | ⟨x, t⟩ <;> simp, rfl, rfl, rfl, by rw [AHeap.set_same _ _ _ hG1]; exact hown8, rfl⟩ (fun n env L B G hI => ?_)
  obtain ⟨i, z, out, ds', av, rfl, hlen, hz, rfl, rfl, rfl, hown, hsh⟩ := hI
  refine g_seq (fun K4 hK4 => ?_)
  refine g_seq (fun K5 hK5 => ?_)
  refine g_region ?_
  refine g_step rfl (s_val (v_move rfl) rfl rfl ?_)
  refine g_step rfl (s_val (v_gtr rfl rfl) rfl rfl ?_)
  refine g_nil ?_
  refine g_next hK5 ?_
  refine g_cond rfl (fun hc13 => ?_) (fun hc13 => ?_)
  · try simp only [decide_eq_true_eq, decide_eq_false_iff_not, Bool.not_eq_true', Bool.not_eq_false', Bool.not_eq_eq_eq_not, Bool.not_true, Bool.not_false, Bool.and_eq_true, Bool.or_eq_true, Bool.or_eq_false_iff, beq_iff_eq, beq_eq_false_iff_ne, ne_eq, Int.not_lt, Int.not_le, Decidable.not_not] at hc13
    obtain ⟨rfl, hi⟩ := hz.resolve_right (by omega)
    obtain ⟨j, rfl⟩ : ∃ j, i = j + 1 := ⟨i - 1, by omega⟩
    obtain ⟨r, hr1, hr2, rfl, rfl⟩ := hown.resolve_left (by rintro ⟨_, h0, _⟩; have he : out = [] := (by simpa using h0); subst he; simp at hi)
    have hrp : r ≠ p := fun e => by subst e; rw [AHeap.get_set] at hr1; cases hr1
    have hGp : ((H.set p (.box (.agg [encI ds']))).set r (.row 1 (out.map (.int .i64)))) p = some (.box (.agg [encI ds'])) := by rw [AHeap.get_set_ne _ _ (Ne.symm hrp), AHeap.get_set]
    have hlow := lowI_range (ds'.headD 0) ((j : Int) + 2) (by omega)
    refine g_skip ?_
    refine g_next hK4 ?_
    refine g_seq (fun K6 hK6 => ?_)
    refine g_block ?_
    refine g_region ?_
    refine g_step rfl (s_val (v_move rfl) rfl rfl ?_)
    refine g_step rfl (s_val (v_move rfl) rfl rfl ?_)
    refine g_step rfl (s_val (v_move rfl) rfl rfl ?_)
    refine g_step rfl (s_val (v_move rfl) rfl rfl ?_)
    refine g_step rfl (s_val (v_add rfl rfl (by omega)) rfl rfl ?_)
    refine g_step rfl (s_call rfl rfl rfl (next_ok p ds' (((j + 1 : Nat) : Int) + 1) _ hGp (by omega)) (fun b hb => .inl hb) ?_)
    rintro n1 r1 effs1 hn1 hdom1 ⟨rfl, rfl⟩ hok1
    rw [show setAll ((H.set p (.box (.agg [encI ds']))).set r (.row 1 (out.map (.int .i64)))) [(p, .box (.agg [encI (dRest ds' (((j + 1 : Nat) : Int) + 1))]))] = (H.set p (.box (.agg [encI ds'.tail]))).set r (.row 1 (out.map (.int .i64))) by rw [dRest_pos _ (by omega)]; exact set_three hrp]
    have hGr : ((H.set p (.box (.agg [encI ds'.tail]))).set r (.row 1 (out.map (.int .i64)))) r = some (.row 1 (out.map (.int .i64))) := AHeap.get_set _ _ _
    refine g_step rfl (s_call rfl rfl rfl (change_ok r _ out (j + 1) (lowI (ds'.headD 0) ((j : Int) + 2)).toNat _ _ _ hGr (by simp) (by omega) (by omega) rfl (by rw [dNext_pos _ (by omega), show (((j + 1 : Nat) : Int) + 1) = (j : Int) + 2 by omega]; omega)) (fun b hb => .inr (by subst hb; exact hr2)) ?_)
    rintro n2 r2 effs2 hn2 hdom2 ⟨rfl, rfl⟩ hok2
    rw [show setAll ((H.set p (.box (.agg [encI ds'.tail]))).set r (.row 1 (out.map (.int .i64)))) [(r, .row 1 ((swp out (j + 1) (lowI (ds'.headD 0) ((j : Int) + 2)).toNat).map (.int .i64)))] = (H.set p (.box (.agg [encI ds'.tail]))).set r (.row 1 ((swp out (j + 1) (lowI (ds'.headD 0) ((j : Int) + 2)).toNat).map (.int .i64))) by exact AHeap.set_set _ _ _ _]
    have hrn : (H.set p (.box (.agg [encI ds'.tail]))) r = none := by rw [AHeap.get_set_ne _ _ hrp] at hr1 ⊢; exact hr1
    refine g_nil ?_
    refine g_block_normal ?_
    refine g_next hK6 ?_
    refine g_region ?_
    refine g_step rfl (s_val (v_move rfl) rfl rfl ?_)
    refine g_step rfl (s_val (v_sub_ rfl rfl (by omega)) rfl rfl ?_)
    refine g_step rfl (s_val (v_assign rfl) rfl rfl ?_)
    refine g_nil ?_
    refine g_keep [0, 5, 6] [] [] rfl rfl rfl rfl ?_
    exact g_round _ (by omega) ⟨j, _, swp out (j + 1) (lowI (ds'.headD 0) ((j : Int) + 2)).toNat, ds'.tail, _, rfl, by rw [swp_length]; exact hlen, .inl ⟨by omega, by rw [swp_length]; omega⟩, rfl, rfl, rfl, .inr ⟨r, hrn, hr2, by simp [swp_length], rfl⟩, hsh⟩
  · try simp only [decide_eq_true_eq, decide_eq_false_iff_not, Bool.not_eq_true', Bool.not_eq_false', Bool.not_eq_eq_eq_not, Bool.not_true, Bool.not_false, Bool.and_eq_true, Bool.or_eq_true, Bool.or_eq_false_iff, beq_iff_eq, beq_eq_false_iff_ne, ne_eq, Int.not_lt, Int.not_le, Decidable.not_not] at hc13
    obtain rfl : i = 0 := by omega
    obtain ⟨e, he1, he2, he3⟩ := hown.effs
    simp only [shuf] at hsh
    refine g_exit ?_
    refine g_then_exit ?_
    refine g_then_exit ?_
    refine g_block_same ?_
    refine g_next hK2 ?_
    refine g_seq (fun K7 hK7 => ?_)
    refine g_region ?_
    refine g_step rfl (s_val (v_move rfl) rfl rfl ?_)
    refine g_step rfl (s_val (v_assign rfl) rfl rfl ?_)
    refine g_nil ?_
    refine g_next hK7 ?_
    refine g_ret ?_
    refine g_end1 (.inl rfl) Try.results17 (.tmp rfl) (e ++ [(p, .box (.agg [encI ds']))]) (ASub.refl _) (by rw [setAll_append]; show AHeap.sub (setAll (H.set p _) e) _; rw [he3]; exact AHeap.sub_refl _) (fun q hq => (List.mem_append.1 hq).elim (fun h => .inr (he2 q h)) (fun h => .inl (by simp at h; subst h; rw [hG]; simp))) ⟨e, by rw [shuffled, ← hsh]; exact he1, by rw [shufRest, ← hsh]⟩

theorem same19_ok (a b : List Int) (va vb : AV) (G : AHeap) (hva : va.view G = some (a.map (.int .i64))) (hvb : vb.view G = some (b.map (.int .i64))) (hl : a.length ≤ 1000000) : PCalls Try.prog 23 [va, vb] G (fun r => r = .bool (decide (a = b))) := by
  refine LCalls.intro 26 fi23 rfl Try.ntmps23 rfl (fun _ h => h.elim) (fun H hH w0 hw0 => ?_)
  have hva := view_sub hH hva
  have hvb := view_sub hH hvb
  refine g_seq (fun K0 hK0 => ?_)
  refine g_region ?_
  refine g_step rfl (s_val (v_assign rfl) rfl rfl ?_)
  refine g_nil ?_
  refine g_next hK0 ?_
  refine g_seq (fun K1 hK1 => ?_)
  refine g_seq (fun K2 hK2 => ?_)
  refine g_region ?_
  refine g_step rfl (s_val (v_move rfl) rfl rfl ?_)
  refine g_step rfl (s_val (v_len ty22 rfl hva (by first | exact List.length_map .. | rfl)) rfl rfl ?_)
  refine g_step rfl (s_val (v_move rfl) rfl rfl ?_)
  refine g_step rfl (s_val (v_len ty22 rfl hvb (by first | exact List.length_map .. | rfl)) rfl rfl ?_)
  refine g_step rfl (s_val (v_neq rfl rfl) rfl rfl ?_)
  refine g_nil ?_
  refine g_next hK2 ?_
  refine g_cond rfl (fun hc10 => ?_) (fun hc10 => ?_)
  · try simp only [decide_eq_true_eq, decide_eq_false_iff_not, Bool.not_eq_true', Bool.not_eq_false', Bool.not_eq_eq_eq_not, Bool.not_true, Bool.not_false, Bool.and_eq_true, Bool.or_eq_true, Bool.or_eq_false_iff, beq_iff_eq, beq_eq_false_iff_ne, ne_eq, Int.not_lt, Int.not_le, Decidable.not_not] at hc10
    have hne : a ≠ b := fun e => hc10 (by rw [e])
    refine g_seq (fun K3 hK3 => ?_)
    refine g_region ?_
    refine g_step rfl (s_val (v_assign rfl) rfl rfl ?_)
    refine g_nil ?_
    refine g_next hK3 ?_
    refine g_ret ?_
    refine g_then_ret ?_
    refine g_end1 (.inl rfl) Try.results23 (.tmp rfl) [] (ASub.refl _) (AHeap.sub_refl _) (fun p hp => by cases hp) ⟨rfl, ?_⟩
    simp [hne]
  · try simp only [decide_eq_true_eq, decide_eq_false_iff_not, Bool.not_eq_true', Bool.not_eq_false', Bool.not_eq_eq_eq_not, Bool.not_true, Bool.not_false, Bool.and_eq_true, Bool.or_eq_true, Bool.or_eq_false_iff, beq_iff_eq, beq_eq_false_iff_ne, ne_eq, Int.not_lt, Int.not_le, Decidable.not_not] at hc10
    refine g_skip ?_
    refine g_next hK1 ?_
    refine g_seq (fun K4 hK4 => ?_)
    refine g_seq (fun K5 hK5 => ?_)
    refine g_region ?_
    refine g_step rfl (s_val (v_assign rfl) rfl rfl ?_)
    refine g_nil ?_
    refine g_next hK5 ?_
    refine g_block ?_
    refine g_keep [0, 1, 5] [] [] rfl rfl rfl rfl ?_
    refine g_loop (fun n env L B G => ∃ k : Nat, k ≤ a.length ∧ n = a.length - k ∧ env = [(0, va), (1, vb), (5, .int .i64 (k : Int))] ∧ L = [] ∧ B = [] ∧ G = H ∧ a.take k = b.take k) a.length ⟨0, by omega, rfl, rfl, rfl, rfl, rfl, rfl⟩ (fun n env L B G hI => ?_)
    obtain ⟨k, hk, rfl, rfl, rfl, rfl, rfl, htk⟩ := hI
    refine g_seq (fun K6 hK6 => ?_)
    refine g_seq (fun K7 hK7 => ?_)
    refine g_region ?_
    refine g_step rfl (s_val (v_move rfl) rfl rfl ?_)
    refine g_step rfl (s_val (v_move rfl) rfl rfl ?_)
    refine g_step rfl (s_val (v_len ty22 rfl hva (by first | exact List.length_map .. | rfl)) rfl rfl ?_)
    refine g_step rfl (s_val (v_lss rfl rfl) rfl rfl ?_)
    refine g_nil ?_
    refine g_next hK7 ?_
    refine g_cond rfl (fun hc14 => ?_) (fun hc14 => ?_)
    · try simp only [decide_eq_true_eq, decide_eq_false_iff_not, Bool.not_eq_true', Bool.not_eq_false', Bool.not_eq_eq_eq_not, Bool.not_true, Bool.not_false, Bool.and_eq_true, Bool.or_eq_true, Bool.or_eq_false_iff, beq_iff_eq, beq_eq_false_iff_ne, ne_eq, Int.not_lt, Int.not_le, Decidable.not_not] at hc14
      obtain ⟨x, hx⟩ := get_some (l := a) (k := k) (by omega)
      obtain ⟨y, hy⟩ := get_some (l := b) (k := k) (by omega)
      refine g_skip ?_
      refine g_next hK6 ?_
      refine g_seq (fun K8 hK8 => ?_)
      refine g_block ?_
      refine g_seq (fun K9 hK9 => ?_)
      refine g_draw (n := 9) (fun j => !([] : List Nat).contains j) rfl rfl ?_
      refine m_take 0 false rfl rfl (by kernel_rfl) (by kernel_rfl) (by kernel_rfl) (fun _ _ _ _ h => h) (v_move rfl) rfl rfl ?_
      refine m_take 1 false rfl rfl (by kernel_rfl) (by kernel_rfl) (by kernel_rfl) (fun _ _ _ _ h => h) (v_move rfl) rfl rfl ?_
      refine m_take 2 false rfl rfl (by kernel_rfl) (by kernel_rfl) (by kernel_rfl) (fun _ _ _ _ h => h) (v_indexAddr ty22 ty3 rfl rfl hva (by first | rfl | exact (rfl : (0 : Int) = ((0 : Nat) : Int)) | exact (Int.toNat_of_nonneg (by omega)).symm) (by first | assumption | exact map_get (by assumption) | rfl) rfl) rfl rfl ?_
      refine m_take 3 true rfl rfl (by kernel_rfl) (by kernel_rfl) (by kernel_rfl) (fun _ _ _ _ h => h) (by first | exact v_load ty3 rfl rfl hva (by first | assumption | exact map_get (by assumption) | rfl) rfl | exact v_load_box ty3 rfl rfl (by assumption) rfl) rfl rfl ?_
      refine m_take 4 false rfl rfl (by kernel_rfl) (by kernel_rfl) (by kernel_rfl) (fun _ _ _ _ h => h) (v_move rfl) rfl rfl ?_
      refine m_take 5 false rfl rfl (by kernel_rfl) (by kernel_rfl) (by kernel_rfl) (fun _ _ _ _ h => h) (v_move rfl) rfl rfl ?_
      refine m_take 6 false rfl rfl (by kernel_rfl) (by kernel_rfl) (by kernel_rfl) (fun _ _ _ _ h => h) (v_indexAddr ty22 ty3 rfl rfl hvb (by first | rfl | exact (rfl : (0 : Int) = ((0 : Nat) : Int)) | exact (Int.toNat_of_nonneg (by omega)).symm) (by first | assumption | exact map_get (by assumption) | rfl) rfl) rfl rfl ?_
      refine m_take 7 true rfl rfl (by kernel_rfl) (by kernel_rfl) (by kernel_rfl) (fun _ _ _ _ h => h) (by first | exact v_load ty3 rfl rfl hvb (by first | assumption | exact map_get (by assumption) | rfl) rfl | exact v_load_box ty3 rfl rfl (by assumption) rfl) rfl rfl ?_
      refine m_take 8 false rfl rfl (by kernel_rfl) (by kernel_rfl) (by kernel_rfl) (fun _ _ _ _ h => h) (v_neq rfl rfl) rfl rfl ?_
      refine m_done (by kernel_rfl) ?_
      refine g_next hK9 ?_
      refine g_cond rfl (fun hc25 => ?_) (fun hc25 => ?_)
      · try simp only [decide_eq_true_eq, decide_eq_false_iff_not, Bool.not_eq_true', Bool.not_eq_false', Bool.not_eq_eq_eq_not, Bool.not_true, Bool.not_false, Bool.and_eq_true, Bool.or_eq_true, Bool.or_eq_false_iff, beq_iff_eq, beq_eq_false_iff_ne, ne_eq, Int.not_lt, Int.not_le, Decidable.not_not] at hc25
        have hne : a ≠ b := fun e => hc25 (by subst e; rw [hx] at hy; exact Option.some.inj hy)
        refine g_seq (fun K10 hK10 => ?_)
        refine g_region ?_
        refine g_step rfl (s_val (v_assign rfl) rfl rfl ?_)
        refine g_nil ?_
        refine g_next hK10 ?_
        refine g_ret ?_
        refine g_block_ret ?_
        refine g_then_ret ?_
        refine g_then_ret ?_
        refine g_block_ret ?_
        refine g_then_ret ?_
        refine g_end1 (.inl rfl) Try.results23 (.tmp rfl) [] (ASub.refl _) (AHeap.sub_refl _) (fun p hp => by cases hp) ⟨rfl, ?_⟩
        simp [hne]
      · try simp only [decide_eq_true_eq, decide_eq_false_iff_not, Bool.not_eq_true', Bool.not_eq_false', Bool.not_eq_eq_eq_not, Bool.not_true, Bool.not_false, Bool.and_eq_true, Bool.or_eq_true, Bool.or_eq_false_iff, beq_iff_eq, beq_eq_false_iff_ne, ne_eq, Int.not_lt, Int.not_le, Decidable.not_not] at hc25
        refine g_skip ?_
        refine g_block_normal ?_
        refine g_next hK8 ?_
        refine g_region ?_
        refine g_step rfl (s_val (v_move rfl) rfl rfl ?_)
        refine g_step rfl (s_val (v_add rfl rfl (by omega)) rfl rfl ?_)
        refine g_step rfl (s_val (v_assign rfl) rfl rfl ?_)
        refine g_nil ?_
        refine g_keep [0, 1, 5] [] [] rfl rfl rfl rfl ?_
        exact g_round _ (by omega) ⟨k + 1, by omega, rfl, rfl, rfl, rfl, rfl, by rw [List.take_add_one, List.take_add_one, htk, hx, hy, hc25]⟩
    · try simp only [decide_eq_true_eq, decide_eq_false_iff_not, Bool.not_eq_true', Bool.not_eq_false', Bool.not_eq_eq_eq_not, Bool.not_true, Bool.not_false, Bool.and_eq_true, Bool.or_eq_true, Bool.or_eq_false_iff, beq_iff_eq, beq_eq_false_iff_ne, ne_eq, Int.not_lt, Int.not_le, Decidable.not_not] at hc14
      obtain rfl : k = a.length := by omega
      have hab : a = b := by rw [List.take_length, List.take_of_length_le (by omega)] at htk; exact htk
      refine g_exit ?_
      refine g_then_exit ?_
      refine g_then_exit ?_
      refine g_block_same ?_
      refine g_next hK4 ?_
      refine g_seq (fun K11 hK11 => ?_)
      refine g_region ?_
      refine g_step rfl (s_val (v_assign rfl) rfl rfl ?_)
      refine g_nil ?_
      refine g_next hK11 ?_
      refine g_ret ?_
      refine g_end1 (.inl rfl) Try.results23 (.tmp rfl) [] (ASub.refl _) (AHeap.sub_refl _) (fun p hp => by cases hp) ⟨rfl, ?_⟩
      simp [hab]

theorem shuffle19_own (l d : List Int) (va vd : AV) (G : AHeap) (hv : va.view G = some (l.map (.int .i64))) (hvd : vd.view G = some (d.map (.int .i64))) (hl : l.length ≤ 1000000) : LCalls Try.prog 22 [va, vd] G noD (fun n v effs => OwnR n 1 v ((shuffled l d).map (.int .i64)) effs) := by
  refine LCalls.intro 49 fi22 rfl Try.ntmps22 rfl (fun _ h => h.elim) (fun H hH w0 hw0 => ?_)
  have hv := view_sub hH hv
  have hvd := view_sub hH hvd
  refine g_seq (fun K0 hK0 => ?_)
  refine g_region ?_
  refine g_step rfl (s_val (v_assign rfl) rfl rfl ?_)
  refine g_nil ?_
  refine g_next hK0 ?_
  refine g_seq (fun K1 hK1 => ?_)
  refine g_region ?_
  refine g_step rfl (s_lit0 ty22 ty3 rfl ?_)
  refine g_step rfl (s_val (v_move rfl) rfl rfl ?_)
  refine g_step rfl (s_append (l := _) (m := _) ty22 ty3 rfl rfl (Own.nil ..) rfl hv (by refine Even.map _ ?_ _; intro _; rfl) (by intro x hx; obtain ⟨_, _, rfl⟩ := List.mem_map.1 hx; rfl) rfl (by simp; omega) (by simp; omega) ?_)
  intro av12 G12 hown12
  refine g_step rfl (s_val (v_assign rfl) rfl rfl ?_)
  refine g_nil ?_
  refine g_next hK1 ?_
  refine g_seq (fun K2 hK2 => ?_)
  refine g_region ?_
  refine g_step rfl (s_val (v_assign rfl) rfl rfl ?_)
  refine g_nil ?_
  refine g_next hK2 ?_
  refine g_seq (fun K3 hK3 => ?_)
  refine g_seq (fun K4 hK4 => ?_)
  refine g_region ?_
  refine g_step rfl (s_val (v_move rfl) rfl rfl ?_)
  refine g_step rfl (s_val (v_len ty22 rfl (Own.view hown12) (by simp; rfl)) rfl rfl ?_)
  refine g_step rfl (s_val (v_sub_ rfl rfl (by omega)) rfl rfl ?_)
  refine g_step rfl (s_val (v_assign rfl) rfl rfl ?_)
  refine g_nil ?_
  refine g_next hK4 ?_
  refine g_block ?_
  refine g_keep [0, 1, 5, 6, 7] [] [] rfl rfl rfl rfl ?_
  refine g_loop (fun n env L B G => ∃ (i at_ : Nat) (z : Int) (out : List Int) (av : AV), i = n ∧ out.length = l.length ∧ at_ + i = l.length - 1 ∧ ((z = (i:Int) ∧ i < out.length) ∨ (z = -1 ∧ i = 0 ∧ out = [])) ∧ env = [(0, va), (1, vd), (5, av), (6, .int .i64 (at_ : Int)), (7, .int .i64 z)] ∧ L = [] ∧ B = [] ∧ Own w0.heap.size 1 H av (out.map (.int .i64)) G ∧ shuf i out (d.drop at_) = shuf (l.length - 1) l d) (l.length - 1) ⟨l.length - 1, 0, _, l, av12, rfl, rfl, by omega, by rcases l with _ | ⟨x, t⟩ <;> simp, rfl, rfl, rfl, hown12, rfl⟩ (fun n env L B G hI => ?_)
  obtain ⟨i, at_, z, out, av, rfl, hlen, hat, hz, rfl, rfl, rfl, hown, hsh⟩ := hI
  refine g_seq (fun K5 hK5 => ?_)
  refine g_seq (fun K6 hK6 => ?_)
  refine g_region ?_
  refine g_step rfl (s_val (v_move rfl) rfl rfl ?_)
  refine g_step rfl (s_val (v_gtr rfl rfl) rfl rfl ?_)
  refine g_nil ?_
  refine g_next hK6 ?_
  refine g_cond rfl (fun hc17 => ?_) (fun hc17 => ?_)
  · try simp only [decide_eq_true_eq, decide_eq_false_iff_not, Bool.not_eq_true', Bool.not_eq_false', Bool.not_eq_eq_eq_not, Bool.not_true, Bool.not_false, Bool.and_eq_true, Bool.or_eq_true, Bool.or_eq_false_iff, beq_iff_eq, beq_eq_false_iff_ne, ne_eq, Int.not_lt, Int.not_le, Decidable.not_not] at hc17
    obtain ⟨rfl, hi⟩ := hz.resolve_right (by omega)
    obtain ⟨j, rfl⟩ : ∃ j, i = j + 1 := ⟨i - 1, by omega⟩
    obtain ⟨r, hr1, hr2, rfl, rfl⟩ := hown.resolve_left (by rintro ⟨_, h0, _⟩; have he : out = [] := (by simpa using h0); subst he; simp at hi)
    have hlow := lowI_range ((d.drop at_).headD 0) ((j : Int) + 2) (by omega)
    have hvd0 : vd.view (H.set r (.row 1 (out.map (.int .i64)))) = some (d.map (.int .i64)) := view_sub (AHeap.sub_set (AHeap.sub_refl _) hr1) hvd
    obtain ⟨kk, hkk⟩ : ∃ kk, kk = (lowI ((d.drop at_).headD 0) ((j : Int) + 2)).toNat := ⟨_, rfl⟩
    have hkl : kk < out.length := by omega
    have hvw := view_row (AHeap.get_set H r (.row 1 (out.map (.int .i64)))) (n := (out.map (AV.int .i64)).length) rfl
    have hgi := map_get (f := AV.int .i64) (List.getElem?_eq_getElem hi)
    have hgk := map_get (f := AV.int .i64) (List.getElem?_eq_getElem hkl)
    obtain ⟨zz, hz1, hz2⟩ := swp_mid out (j + 1) kk hkl
    refine g_skip ?_
    refine g_next hK5 ?_
    refine g_seq (fun K7 hK7 => ?_)
    refine g_block ?_
    refine g_seq (fun K8 hK8 => ?_)
    refine g_region ?_
    refine g_step rfl (s_val (v_assign rfl) rfl rfl ?_)
    refine g_nil ?_
    refine g_next hK8 ?_
    refine g_seq (fun K9 hK9 => ?_)
    refine g_seq (fun K10 hK10 => ?_)
    refine g_region ?_
    refine g_step rfl (s_val (v_move rfl) rfl rfl ?_)
    refine g_step rfl (s_val (v_move rfl) rfl rfl ?_)
    refine g_step rfl (s_val (v_len ty22 rfl hvd0 (by first | exact List.length_map .. | rfl)) rfl rfl ?_)
    refine g_step rfl (s_val (v_lss rfl rfl) rfl rfl ?_)
    refine g_nil ?_
    refine g_next hK10 ?_
    refine g_cond rfl (fun hc23 => ?_) (fun hc23 => ?_)
    · try simp only [decide_eq_true_eq, decide_eq_false_iff_not, Bool.not_eq_true', Bool.not_eq_false', Bool.not_eq_eq_eq_not, Bool.not_true, Bool.not_false, Bool.and_eq_true, Bool.or_eq_true, Bool.or_eq_false_iff, beq_iff_eq, beq_eq_false_iff_ne, ne_eq, Int.not_lt, Int.not_le, Decidable.not_not] at hc23
      obtain ⟨y, hy⟩ := get_some (l := d) (k := at_) (by omega)
      have hdr : (d.drop at_).headD 0 = y := by rw [drop_cons hy]; rfl
      have hkz : lowI y (((j + 1 : Nat) : Int) + 1) = (kk : Int) := by rw [← hdr, show (((j + 1 : Nat) : Int) + 1) = (j : Int) + 2 by omega]; omega
      refine g_region ?_
      refine g_step rfl (s_val (v_move rfl) rfl rfl ?_)
      refine g_step rfl (s_val (v_move rfl) rfl rfl ?_)
      refine g_step rfl (s_val (v_indexAddr ty22 ty3 rfl rfl hvd0 (by first | rfl | exact (rfl : (0 : Int) = ((0 : Nat) : Int)) | exact (Int.toNat_of_nonneg (by omega)).symm) (by first | assumption | exact map_get (by assumption) | rfl) rfl) rfl rfl ?_)
      refine g_step rfl (s_val (by first | exact v_load ty3 rfl rfl hvd0 (by first | assumption | exact map_get (by assumption) | rfl) rfl | exact v_load_box ty3 rfl rfl (by assumption) rfl) rfl rfl ?_)
      refine g_step rfl (s_val (v_move rfl) rfl rfl ?_)
      refine g_step rfl (s_val (v_add rfl rfl (by omega)) rfl rfl ?_)
      refine g_step rfl (s_callp rfl rfl rfl (low_ok _ _ _ (by omega) (by omega)) ?_)
      rintro _ rfl
      refine g_step rfl (s_val (v_assign rfl) rfl rfl ?_)
      refine g_nil ?_
      refine g_next hK9 ?_
      refine g_seq (fun K11 hK11 => ?_)
      refine g_region ?_
      refine g_step rfl (s_val (v_move rfl) rfl rfl ?_)
      refine g_step rfl (s_val (v_add rfl rfl (by omega)) rfl rfl ?_)
      refine g_step rfl (s_val (v_assign rfl) rfl rfl ?_)
      refine g_nil ?_
      refine g_next hK11 ?_
      refine g_seq (fun K12 hK12 => ?_)
      refine g_region ?_
      refine g_step rfl (s_val (v_move rfl) rfl rfl ?_)
      refine g_step rfl (s_val (v_move rfl) rfl rfl ?_)
      refine g_step rfl (s_val (v_indexAddr ty22 ty3 rfl rfl hvw (by first | rfl | exact (rfl : (0 : Int) = ((0 : Nat) : Int)) | exact (Int.toNat_of_nonneg (by omega)).symm) hgi rfl) rfl rfl ?_)
      refine g_step rfl (s_val (by first | exact v_load ty3 rfl rfl hvw hgi rfl | exact v_load_box ty3 rfl rfl (by assumption) rfl) rfl rfl ?_)
      refine g_step rfl (s_val (v_assign rfl) rfl rfl ?_)
      refine g_nil ?_
      refine g_next hK12 ?_
      refine g_seq (fun K13 hK13 => ?_)
      refine g_region ?_
      refine g_step rfl (s_val (v_move rfl) rfl rfl ?_)
      refine g_step rfl (s_val (v_move rfl) rfl rfl ?_)
      refine g_step rfl (s_val (v_move rfl) rfl rfl ?_)
      refine g_step rfl (s_val (v_move rfl) rfl rfl ?_)
      refine g_step rfl (s_val (v_indexAddr ty22 ty3 rfl rfl hvw hkz hgk rfl) rfl rfl ?_)
      refine g_step rfl (s_val (by first | exact v_load ty3 rfl rfl hvw hgk rfl | exact v_load_box ty3 rfl rfl (by assumption) rfl) rfl rfl ?_)
      refine g_step rfl (s_val (v_indexAddr ty22 ty3 rfl rfl hvw (by first | rfl | exact (rfl : (0 : Int) = ((0 : Nat) : Int)) | exact (Int.toNat_of_nonneg (by omega)).symm) hgi rfl) rfl rfl ?_)
      refine g_step rfl (s_store_row (k := j + 1) (off := 0) (new := .int .i64 (out[kk]'hkl)) ty3 rfl rfl (AHeap.get_set _ _ _) (by rw [Nat.zero_add]; exact hgi) rfl rfl rfl rfl (.inr hr2) ?_)
      refine g_nil ?_
      refine g_next hK13 ?_
      refine g_region ?_
      refine g_step rfl (s_val (v_move rfl) rfl rfl ?_)
      refine g_step rfl (s_val (v_move rfl) rfl rfl ?_)
      refine g_step rfl (s_val (v_move rfl) rfl rfl ?_)
      refine g_step rfl (s_val (v_indexAddr ty22 ty3 rfl rfl (view_row (AHeap.get_set _ _ _) (by simp)) hkz hz2 rfl) rfl rfl ?_)
      refine g_step rfl (s_store_row (k := kk) (off := 0) (new := .int .i64 (out[j + 1]'hi)) ty3 rfl rfl (AHeap.get_set _ _ _) hz1 rfl rfl rfl rfl (.inr hr2) ?_)
      refine g_nil ?_
      refine g_block_normal ?_
      refine g_next hK7 ?_
      refine g_region ?_
      refine g_step rfl (s_val (v_move rfl) rfl rfl ?_)
      refine g_step rfl (s_val (v_sub_ rfl rfl (by omega)) rfl rfl ?_)
      refine g_step rfl (s_val (v_assign rfl) rfl rfl ?_)
      refine g_nil ?_
      refine g_keep [0, 1, 5, 6, 7] [] [] rfl rfl rfl rfl ?_
      exact g_round _ (by omega) ⟨j, at_ + 1, _, swp out (j + 1) kk, _, rfl, by rw [swp_length]; exact hlen, by omega, .inl ⟨by omega, by rw [swp_length]; omega⟩, rfl, rfl, rfl, .inr ⟨r, hr1, hr2, by simp [swp_length], by rw [AHeap.set_set, AHeap.set_set, swp_row out (j + 1) kk hi hkl]⟩, by rw [shuf, List.tail_drop, ← hkk] at hsh; exact hsh⟩
    · try simp only [decide_eq_true_eq, decide_eq_false_iff_not, Bool.not_eq_true', Bool.not_eq_false', Bool.not_eq_eq_eq_not, Bool.not_true, Bool.not_false, Bool.and_eq_true, Bool.or_eq_true, Bool.or_eq_false_iff, beq_iff_eq, beq_eq_false_iff_ne, ne_eq, Int.not_lt, Int.not_le, Decidable.not_not] at hc23
      have hdr : (d.drop at_).headD 0 = 0 := by rw [List.drop_of_length_le (by omega)]; rfl
      have hkz : (0 : Int) = (kk : Int) := by rw [hdr, lowI_zero] at hkk; omega
      refine g_skip ?_
      refine g_next hK9 ?_
      refine g_seq (fun K14 hK14 => ?_)
      refine g_region ?_
      refine g_step rfl (s_val (v_move rfl) rfl rfl ?_)
      refine g_step rfl (s_val (v_add rfl rfl (by omega)) rfl rfl ?_)
      refine g_step rfl (s_val (v_assign rfl) rfl rfl ?_)
      refine g_nil ?_
      refine g_next hK14 ?_
      refine g_seq (fun K15 hK15 => ?_)
      refine g_region ?_
      refine g_step rfl (s_val (v_move rfl) rfl rfl ?_)
      refine g_step rfl (s_val (v_move rfl) rfl rfl ?_)
      refine g_step rfl (s_val (v_indexAddr ty22 ty3 rfl rfl hvw (by first | rfl | exact (rfl : (0 : Int) = ((0 : Nat) : Int)) | exact (Int.toNat_of_nonneg (by omega)).symm) hgi rfl) rfl rfl ?_)
      refine g_step rfl (s_val (by first | exact v_load ty3 rfl rfl hvw hgi rfl | exact v_load_box ty3 rfl rfl (by assumption) rfl) rfl rfl ?_)
      refine g_step rfl (s_val (v_assign rfl) rfl rfl ?_)
      refine g_nil ?_
      refine g_next hK15 ?_
      refine g_seq (fun K16 hK16 => ?_)
      refine g_region ?_
      refine g_step rfl (s_val (v_move rfl) rfl rfl ?_)
      refine g_step rfl (s_val (v_move rfl) rfl rfl ?_)
      refine g_step rfl (s_val (v_move rfl) rfl rfl ?_)
      refine g_step rfl (s_val (v_move rfl) rfl rfl ?_)
      refine g_step rfl (s_val (v_indexAddr ty22 ty3 rfl rfl hvw hkz hgk rfl) rfl rfl ?_)
      refine g_step rfl (s_val (by first | exact v_load ty3 rfl rfl hvw hgk rfl | exact v_load_box ty3 rfl rfl (by assumption) rfl) rfl rfl ?_)
      refine g_step rfl (s_val (v_indexAddr ty22 ty3 rfl rfl hvw (by first | rfl | exact (rfl : (0 : Int) = ((0 : Nat) : Int)) | exact (Int.toNat_of_nonneg (by omega)).symm) hgi rfl) rfl rfl ?_)
      refine g_step rfl (s_store_row (k := j + 1) (off := 0) (new := .int .i64 (out[kk]'hkl)) ty3 rfl rfl (AHeap.get_set _ _ _) (by rw [Nat.zero_add]; exact hgi) rfl rfl rfl rfl (.inr hr2) ?_)
      refine g_nil ?_
      refine g_next hK16 ?_
      refine g_region ?_
      refine g_step rfl (s_val (v_move rfl) rfl rfl ?_)
      refine g_step rfl (s_val (v_move rfl) rfl rfl ?_)
      refine g_step rfl (s_val (v_move rfl) rfl rfl ?_)
      refine g_step rfl (s_val (v_indexAddr ty22 ty3 rfl rfl (view_row (AHeap.get_set _ _ _) (by simp)) hkz hz2 rfl) rfl rfl ?_)
      refine g_step rfl (s_store_row (k := kk) (off := 0) (new := .int .i64 (out[j + 1]'hi)) ty3 rfl rfl (AHeap.get_set _ _ _) hz1 rfl rfl rfl rfl (.inr hr2) ?_)
      refine g_nil ?_
      refine g_block_normal ?_
      refine g_next hK7 ?_
      refine g_region ?_
      refine g_step rfl (s_val (v_move rfl) rfl rfl ?_)
      refine g_step rfl (s_val (v_sub_ rfl rfl (by omega)) rfl rfl ?_)
      refine g_step rfl (s_val (v_assign rfl) rfl rfl ?_)
      refine g_nil ?_
      refine g_keep [0, 1, 5, 6, 7] [] [] rfl rfl rfl rfl ?_
      exact g_round _ (by omega) ⟨j, at_ + 1, _, swp out (j + 1) kk, _, rfl, by rw [swp_length]; exact hlen, by omega, .inl ⟨by omega, by rw [swp_length]; omega⟩, rfl, rfl, rfl, .inr ⟨r, hr1, hr2, by simp [swp_length], by rw [AHeap.set_set, AHeap.set_set, swp_row out (j + 1) kk hi hkl]⟩, by rw [shuf, List.tail_drop, ← hkk] at hsh; exact hsh⟩
  · try simp only [decide_eq_true_eq, decide_eq_false_iff_not, Bool.not_eq_true', Bool.not_eq_false', Bool.not_eq_eq_eq_not, Bool.not_true, Bool.not_false, Bool.and_eq_true, Bool.or_eq_true, Bool.or_eq_false_iff, beq_iff_eq, beq_eq_false_iff_ne, ne_eq, Int.not_lt, Int.not_le, Decidable.not_not] at hc17
    obtain rfl : i = 0 := by omega
    obtain ⟨e, he1, he2, he3⟩ := hown.effs
    simp only [shuf] at hsh
    refine g_exit ?_
    refine g_then_exit ?_
    refine g_then_exit ?_
    refine g_block_same ?_
    refine g_next hK3 ?_
    refine g_seq (fun K17 hK17 => ?_)
    refine g_region ?_
    refine g_step rfl (s_val (v_move rfl) rfl rfl ?_)
    refine g_step rfl (s_val (v_assign rfl) rfl rfl ?_)
    refine g_nil ?_
    refine g_next hK17 ?_
    refine g_ret ?_
    refine g_end1 (.inl rfl) Try.results22 (.tmp rfl) e (ASub.refl _) (by rw [he3]; exact AHeap.sub_refl _) (fun q hq => .inr (he2 q hq)) (by rw [shuffled, ← hsh]; exact he1)

theorem shuffle19_ok (l d : List Int) (va vd : AV) (G : AHeap) (hv : va.view G = some (l.map (.int .i64))) (hvd : vd.view G = some (d.map (.int .i64))) (hl : l.length ≤ 1000000) : PCalls Try.prog 22 [va, vd] G (fun r => r = .imm ((shuffled l d).map (.int .i64))) := (shuffle19_own l d va vd G hv hvd hl).freeze
theorem some_ok (p : Nat) (ds l : List Int) (k : Int) (va : AV) (G : AHeap) (hG : G p = some (.box (.agg [encI ds]))) (hv : va.view G = some (l.map (.int .i64))) (hl : l.length ≤ 1000000) : LCalls Try.prog 24 [.box p 0, va, .int .i64 k] G (· = p) (fun n v effs => v = .imm ((someI l ds k).map (.int .i64)) ∧ effs = [(p, .box (.agg [encI (someRest l ds k)]))]) := by
  refine LCalls.intro 19 fi24 rfl Try.ntmps24 rfl (fun b hb => by subst hb; rw [hG]; simp) (fun H hH w0 hw0 => ?_)
  have hG1 := hH _ _ hG
  have hv := view_sub hH hv
  refine g_seq (fun K0 hK0 => ?_)
  refine g_region ?_
  refine g_step rfl (s_val (v_assign rfl) rfl rfl ?_)
  refine g_nil ?_
  refine g_next hK0 ?_
  refine g_seq (fun K1 hK1 => ?_)
  refine g_seq (fun K2 hK2 => ?_)
  refine g_region ?_
  refine g_step rfl (s_val (v_move rfl) rfl rfl ?_)
  refine g_step rfl (s_val (v_lss rfl rfl) rfl rfl ?_)
  refine g_nil ?_
  refine g_next hK2 ?_
  refine g_cond rfl (fun hc9 => ?_) (fun hc9 => ?_)
  · try simp only [decide_eq_true_eq, decide_eq_false_iff_not, Bool.not_eq_true', Bool.not_eq_false', Bool.not_eq_eq_eq_not, Bool.not_true, Bool.not_false, Bool.and_eq_true, Bool.or_eq_true, Bool.or_eq_false_iff, beq_iff_eq, beq_eq_false_iff_ne, ne_eq, Int.not_lt, Int.not_le, Decidable.not_not] at hc9
    refine g_seq (fun K3 hK3 => ?_)
    refine g_region ?_
    refine g_step rfl (s_val (v_assign rfl) rfl rfl ?_)
    refine g_nil ?_
    refine g_next hK3 ?_
    refine g_ret ?_
    refine g_then_ret ?_
    refine g_end1 (.inl rfl) Try.results24 (.tmp rfl) [(p, .box (.agg [encI ds]))] ASub.nil0 (fun b y hb => by rw [show setAll H [(p, ARow.box (.agg [encI ds]))] = H from AHeap.set_same _ _ _ hG1] at hb; exact hb) (fun q hq => .inl (by simp at hq; subst hq; rw [hG]; simp)) ⟨by rw [someI, if_pos hc9]; rfl, by rw [someRest, if_pos hc9]⟩
  · try simp only [decide_eq_true_eq, decide_eq_false_iff_not, Bool.not_eq_true', Bool.not_eq_false', Bool.not_eq_eq_eq_not, Bool.not_true, Bool.not_false, Bool.and_eq_true, Bool.or_eq_true, Bool.or_eq_false_iff, beq_iff_eq, beq_eq_false_iff_ne, ne_eq, Int.not_lt, Int.not_le, Decidable.not_not] at hc9
    refine g_skip ?_
    refine g_next hK1 ?_
    refine g_seq (fun K4 hK4 => ?_)
    refine g_region ?_
    refine g_step rfl (s_val (v_move rfl) rfl rfl ?_)
    refine g_step rfl (s_val (v_move rfl) rfl rfl ?_)
    refine g_step rfl (s_call rfl rfl rfl (shuffle_ok p ds l _ _ hG1 hv (by omega)) (fun b hb => .inl hb) ?_)
    rintro n3 r3 effs3 hn3 hdom3 ⟨e3, he3, rfl⟩ hok3
    rw [setAll_append]
    generalize hE3 : setAll H [(p, .box (.agg [encI (shufRest l ds)]))] = G3
    refine g_freeze 12 rfl (he3.own hn3 (fun b hb => by rw [← hE3]; exact (AHeap.get_set_ne _ _ (fun e => by rw [e] at hb; have := hdom3 p hb; rw [hG1] at this; cases this)).trans (hdom3 b hb))) ?_
    have hgl : (shuffled l ds).length = l.length := shuf_length _ _ _
    refine g_step rfl (s_val (v_assign rfl) rfl rfl ?_)
    refine g_nil ?_
    refine g_next hK4 ?_
    refine g_seq (fun K5 hK5 => ?_)
    refine g_region ?_
    refine g_step rfl (s_val (v_move rfl) rfl rfl ?_)
    refine g_step rfl (s_val (v_move rfl) rfl rfl ?_)
    refine g_step rfl (s_val (v_move rfl) rfl rfl ?_)
    refine g_step rfl (s_val (v_len ty22 rfl (by first | rfl | assumption) (by first | exact List.length_map .. | rfl)) rfl rfl ?_)
    refine g_step rfl (s_val (v_min rfl rfl) rfl rfl ?_)
    refine g_step rfl (s_val (v_slice_imm (lo := 0) (hi := (min k.toNat l.length)) (m := ((someI l ds k).map (.int .i64))) ty22 ty3 rfl rfl rfl (by first | rfl | (exact (rfl : (0 : Int) = ((0 : Nat) : Int))) | omega | (simp <;> omega)) (by omega) (by first | omega | (simp <;> omega)) (by simp; omega) (by refine Even.map _ ?_ _; intro _; rfl) (by rw [someI, if_neg (by omega)]; simp [List.map_take])) rfl rfl ?_)
    refine g_step rfl (s_val (v_assign rfl) rfl rfl ?_)
    refine g_nil ?_
    refine g_next hK5 ?_
    refine g_ret ?_
    refine g_end1 (.inl rfl) Try.results24 (.tmp rfl) [(p, .box (.agg [encI (shufRest l ds)]))] (ASub.refl _) (by rw [← hE3]; exact AHeap.sub_refl _) (fun q hq => .inl (by simp at hq; subst hq; rw [hG]; simp)) ⟨rfl, by rw [someRest, if_neg (by omega)]⟩

theorem awake19_ok (G : AHeap) : PCalls Try.prog 15 [] G (fun r => r = .bool true) := by
  refine LCalls.intro 45 fi15 rfl Try.ntmps15 rfl (fun _ h => h.elim) (fun H hH w0 hw0 => ?_)
  refine g_seq (fun K0 hK0 => ?_)
  refine g_region ?_
  refine g_step rfl (s_val (v_assign rfl) rfl rfl ?_)
  refine g_nil ?_
  refine g_next hK0 ?_
  refine g_seq (fun K1 hK1 => ?_)
  refine g_region ?_
  refine g_step rfl (s_lit ty22 ty3 rfl rfl rfl rfl rfl rfl rfl ?_)
  refine g_step rfl (s_call rfl rfl rfl (new_ok [7, -1] _ _ rfl (by simp)) (fun _ h => h.elim) ?_)
  rintro n1 r1 effs1 hn1 hdom1 ⟨p1, hp1, rfl, rfl⟩ hok1
  have hw1 : w0.heap.size ≤ p1 := Nat.le_trans hn1 hp1
  have hz1 := hdom1 _ hp1
  generalize hE1 : setAll H [(p1, .box (.agg [encI [7, -1]]))] = G1
  have hs1 : H.sub G1 := hE1 ▸ sub_set' (AHeap.sub_refl _) hz1
  have hq1 : G1 p1 = some (.box (.agg [encI [7, -1]])) := hE1 ▸ AHeap.get_set _ _ _
  refine g_step rfl (s_val (v_assign rfl) rfl rfl ?_)
  refine g_nil ?_
  refine g_next hK1 ?_
  refine g_seq (fun K2 hK2 => ?_)
  refine g_region ?_
  refine g_step rfl (s_lit ty22 ty3 rfl rfl rfl rfl rfl rfl rfl ?_)
  refine g_step rfl (s_call rfl rfl rfl (new_ok [0, 0] _ _ rfl (by simp)) (fun _ h => h.elim) ?_)
  rintro n2 r2 effs2 hn2 hdom2 ⟨p2, hp2, rfl, rfl⟩ hok2
  have hw2 : w0.heap.size ≤ p2 := Nat.le_trans hn2 hp2
  have hz2 : G1 p2 = none := hdom2 _ hp2
  have hz2' : H p2 = none := sub_none hs1 hz2
  have hne : p1 ≠ p2 := fun e => by subst e; rw [hq1] at hz2; cases hz2
  generalize hE2 : setAll G1 [(p2, .box (.agg [encI [0, 0]]))] = G2
  have hs2 : H.sub G2 := hE2 ▸ sub_set' hs1 hz2'
  have hq2 : G2 p1 = some (.box (.agg [encI [7, -1]])) := by rw [← hE2]; exact (AHeap.get_set_ne _ _ hne).trans hq1
  have hb2 : G2 p2 = some (.box (.agg [encI [0, 0]])) := hE2 ▸ AHeap.get_set _ _ _
  refine g_step rfl (s_lit ty22 ty3 rfl rfl rfl rfl rfl rfl rfl ?_)
  refine g_step rfl (s_call rfl rfl rfl (shuffle_ok p2 [0, 0] [1, 2, 3] _ _ hb2 rfl (by simp)) (fun b hb => .inr (by subst hb; exact hw2)) ?_)
  rintro n3 r3 effs3 hn3 hdom3 ⟨e3, he3, rfl⟩ hok3
  rw [setAll_append]
  generalize hE3 : setAll G2 [(p2, .box (.agg [encI (shufRest [1, 2, 3] [0, 0])]))] = G3
  have hs3 : H.sub G3 := hE3 ▸ sub_set' hs2 hz2'
  have hq3 : G3 p1 = some (.box (.agg [encI [7, -1]])) := by rw [← hE3]; exact (AHeap.get_set_ne _ _ hne).trans hq2
  refine g_freeze 8 rfl (he3.own hn3 (fun b hb => by rw [← hE3]; exact (AHeap.get_set_ne _ _ (fun e => by rw [e] at hb; have := hdom3 p2 hb; rw [hb2] at this; cases this)).trans (hdom3 b hb))) ?_
  rw [show shuffled [1, 2, 3] [0, 0] = [2, 3, 1] by decide]
  refine g_step rfl (s_val (v_assign rfl) rfl rfl ?_)
  refine g_nil ?_
  refine g_next hK2 ?_
  refine g_seq (fun K3 hK3 => ?_)
  refine g_region ?_
  refine g_step rfl (s_val (v_move rfl) rfl rfl ?_)
  refine g_step rfl (s_call rfl rfl rfl (next_ok p1 [7, -1] 5 _ hq3 (by omega)) (fun b hb => .inr (by subst hb; exact hw1)) ?_)
  rintro n4 r4 effs4 hn4 hdom4 ⟨rfl, rfl⟩ hok4
  generalize hE4 : setAll G3 [(p1, .box (.agg [encI (dRest [7, -1] 5)]))] = G4
  have hs4 : H.sub G4 := hE4 ▸ sub_set' hs3 hz1
  have hq4 : G4 p1 = some (.box (.agg [encI (dRest [7, -1] 5)])) := hE4 ▸ AHeap.get_set _ _ _
  refine g_step rfl (s_val (v_eql rfl rfl) rfl rfl ?_)
  refine g_step rfl (s_val (v_move rfl) rfl rfl ?_)
  refine g_split 12 rfl (fun hg12 => ?_) (fun hg12 => ?_)
  · try simp only [decide_eq_true_eq, decide_eq_false_iff_not, Bool.not_eq_true', Bool.not_eq_false', Bool.not_eq_eq_eq_not, Bool.not_true, Bool.not_false, Bool.and_eq_true, Bool.or_eq_true, Bool.or_eq_false_iff, beq_iff_eq, beq_eq_false_iff_ne, ne_eq, Int.not_lt, Int.not_le, Decidable.not_not] at hg12
    refine g_step_yes (j := 3) (t := 12) rfl rfl rfl rfl (s_val (v_move rfl) rfl rfl ?_)
    refine g_step_yes (j := 3) (t := 12) rfl rfl rfl rfl (s_call rfl rfl rfl (next_ok p1 (dRest [7, -1] 5) 5 _ hq4 (by omega)) (fun b hb => .inr (by subst hb; exact hw1)) ?_)
    rintro n5 r5 effs5 hn5 hdom5 ⟨rfl, rfl⟩ hok5
    generalize hE5 : setAll G4 [(p1, .box (.agg [encI (dRest (dRest [7, -1] 5) 5)]))] = G5
    have hs5 : H.sub G5 := hE5 ▸ sub_set' hs4 hz1
    have hq5 : G5 p1 = some (.box (.agg [encI (dRest (dRest [7, -1] 5) 5)])) := hE5 ▸ AHeap.get_set _ _ _
    refine g_step_yes (j := 3) (t := 12) rfl rfl rfl rfl (s_val (v_eql rfl rfl) rfl rfl ?_)
    refine g_step rfl (s_val (v_pick_t rfl rfl) rfl rfl ?_)
    refine g_step rfl (s_val (v_move rfl) rfl rfl ?_)
    refine g_split 17 rfl (fun hg17 => ?_) (fun hg17 => ?_)
    · try simp only [decide_eq_true_eq, decide_eq_false_iff_not, Bool.not_eq_true', Bool.not_eq_false', Bool.not_eq_eq_eq_not, Bool.not_true, Bool.not_false, Bool.and_eq_true, Bool.or_eq_true, Bool.or_eq_false_iff, beq_iff_eq, beq_eq_false_iff_ne, ne_eq, Int.not_lt, Int.not_le, Decidable.not_not] at hg17
      refine g_step_yes (j := 8) (t := 17) rfl rfl rfl rfl (s_val (v_move rfl) rfl rfl ?_)
      refine g_step_yes (j := 8) (t := 17) rfl rfl rfl rfl (s_call rfl rfl rfl (next_ok p1 (dRest (dRest [7, -1] 5) 5) 5 _ hq5 (by omega)) (fun b hb => .inr (by subst hb; exact hw1)) ?_)
      rintro n6 r6 effs6 hn6 hdom6 ⟨rfl, rfl⟩ hok6
      generalize hE6 : setAll G5 [(p1, .box (.agg [encI (dRest (dRest (dRest [7, -1] 5) 5) 5)]))] = G6
      have hs6 : H.sub G6 := hE6 ▸ sub_set' hs5 hz1
      have hq6 : G6 p1 = some (.box (.agg [encI (dRest (dRest (dRest [7, -1] 5) 5) 5)])) := hE6 ▸ AHeap.get_set _ _ _
      refine g_step_yes (j := 8) (t := 17) rfl rfl rfl rfl (s_val (v_eql rfl rfl) rfl rfl ?_)
      refine g_step rfl (s_val (v_pick_t rfl rfl) rfl rfl ?_)
      refine g_step rfl (s_val (v_move rfl) rfl rfl ?_)
      refine g_split 22 rfl (fun hg22 => ?_) (fun hg22 => ?_)
      · try simp only [decide_eq_true_eq, decide_eq_false_iff_not, Bool.not_eq_true', Bool.not_eq_false', Bool.not_eq_eq_eq_not, Bool.not_true, Bool.not_false, Bool.and_eq_true, Bool.or_eq_true, Bool.or_eq_false_iff, beq_iff_eq, beq_eq_false_iff_ne, ne_eq, Int.not_lt, Int.not_le, Decidable.not_not] at hg22
        refine g_step_yes (j := 13) (t := 22) rfl rfl rfl rfl (s_val (v_move rfl) rfl rfl ?_)
        refine g_step_yes (j := 13) (t := 22) rfl rfl rfl rfl (s_val (v_len ty22 rfl (by first | rfl | assumption) (by first | exact List.length_map .. | rfl)) rfl rfl ?_)
        refine g_step_yes (j := 13) (t := 22) rfl rfl rfl rfl (s_val (v_eql rfl rfl) rfl rfl ?_)
        refine g_step rfl (s_val (v_pick_t rfl rfl) rfl rfl ?_)
        refine g_step rfl (s_val (v_move rfl) rfl rfl ?_)
        refine g_split 27 rfl (fun hg27 => ?_) (fun hg27 => ?_)
        · try simp only [decide_eq_true_eq, decide_eq_false_iff_not, Bool.not_eq_true', Bool.not_eq_false', Bool.not_eq_eq_eq_not, Bool.not_true, Bool.not_false, Bool.and_eq_true, Bool.or_eq_true, Bool.or_eq_false_iff, beq_iff_eq, beq_eq_false_iff_ne, ne_eq, Int.not_lt, Int.not_le, Decidable.not_not] at hg27
          refine g_step_yes (j := 18) (t := 27) rfl rfl rfl rfl (s_val (v_move rfl) rfl rfl ?_)
          refine g_step_yes (j := 18) (t := 27) rfl rfl rfl rfl (s_val (v_indexAddr ty22 ty3 rfl rfl (by first | rfl | assumption) (by first | rfl | exact (rfl : (0 : Int) = ((0 : Nat) : Int)) | exact (Int.toNat_of_nonneg (by omega)).symm) (by first | assumption | exact map_get (by assumption) | rfl) rfl) rfl rfl ?_)
          refine g_step_yes (j := 18) (t := 27) rfl rfl rfl rfl (s_val (by first | exact v_load ty3 rfl rfl (by first | rfl | assumption) (by first | assumption | exact map_get (by assumption) | rfl) rfl | exact v_load_box ty3 rfl rfl (by assumption) rfl) rfl rfl ?_)
          refine g_step_yes (j := 18) (t := 27) rfl rfl rfl rfl (s_val (v_eql rfl rfl) rfl rfl ?_)
          refine g_step rfl (s_val (v_pick_t rfl rfl) rfl rfl ?_)
          refine g_step rfl (s_val (v_move rfl) rfl rfl ?_)
          refine g_split 33 rfl (fun hg33 => ?_) (fun hg33 => ?_)
          · try simp only [decide_eq_true_eq, decide_eq_false_iff_not, Bool.not_eq_true', Bool.not_eq_false', Bool.not_eq_eq_eq_not, Bool.not_true, Bool.not_false, Bool.and_eq_true, Bool.or_eq_true, Bool.or_eq_false_iff, beq_iff_eq, beq_eq_false_iff_ne, ne_eq, Int.not_lt, Int.not_le, Decidable.not_not] at hg33
            refine g_step_yes (j := 24) (t := 33) rfl rfl rfl rfl (s_val (v_move rfl) rfl rfl ?_)
            refine g_step_yes (j := 24) (t := 33) rfl rfl rfl rfl (s_val (v_indexAddr ty22 ty3 rfl rfl (by first | rfl | assumption) (by first | rfl | exact (rfl : (0 : Int) = ((0 : Nat) : Int)) | exact (Int.toNat_of_nonneg (by omega)).symm) (by first | assumption | exact map_get (by assumption) | rfl) rfl) rfl rfl ?_)
            refine g_step_yes (j := 24) (t := 33) rfl rfl rfl rfl (s_val (by first | exact v_load ty3 rfl rfl (by first | rfl | assumption) (by first | assumption | exact map_get (by assumption) | rfl) rfl | exact v_load_box ty3 rfl rfl (by assumption) rfl) rfl rfl ?_)
            refine g_step_yes (j := 24) (t := 33) rfl rfl rfl rfl (s_val (v_eql rfl rfl) rfl rfl ?_)
            refine g_step rfl (s_val (v_pick_t rfl rfl) rfl rfl ?_)
            refine g_step rfl (s_val (v_move rfl) rfl rfl ?_)
            refine g_split 39 rfl (fun hg39 => ?_) (fun hg39 => ?_)
            · try simp only [decide_eq_true_eq, decide_eq_false_iff_not, Bool.not_eq_true', Bool.not_eq_false', Bool.not_eq_eq_eq_not, Bool.not_true, Bool.not_false, Bool.and_eq_true, Bool.or_eq_true, Bool.or_eq_false_iff, beq_iff_eq, beq_eq_false_iff_ne, ne_eq, Int.not_lt, Int.not_le, Decidable.not_not] at hg39
              refine g_step_yes (j := 30) (t := 39) rfl rfl rfl rfl (s_val (v_move rfl) rfl rfl ?_)
              refine g_step_yes (j := 30) (t := 39) rfl rfl rfl rfl (s_val (v_indexAddr ty22 ty3 rfl rfl (by first | rfl | assumption) (by first | rfl | exact (rfl : (0 : Int) = ((0 : Nat) : Int)) | exact (Int.toNat_of_nonneg (by omega)).symm) (by first | assumption | exact map_get (by assumption) | rfl) rfl) rfl rfl ?_)
              refine g_step_yes (j := 30) (t := 39) rfl rfl rfl rfl (s_val (by first | exact v_load ty3 rfl rfl (by first | rfl | assumption) (by first | assumption | exact map_get (by assumption) | rfl) rfl | exact v_load_box ty3 rfl rfl (by assumption) rfl) rfl rfl ?_)
              refine g_step_yes (j := 30) (t := 39) rfl rfl rfl rfl (s_val (v_eql rfl rfl) rfl rfl ?_)
              refine g_step rfl (s_val (v_pick_t rfl rfl) rfl rfl ?_)
              refine g_step rfl (s_val (v_assign rfl) rfl rfl ?_)
              refine g_nil ?_
              refine g_next hK3 ?_
              refine g_ret ?_
              refine g_end1 (.inl rfl) Try.results15 (.tmp rfl) [] (ASub.refl _) hs6 (fun p hp => by cases hp) ⟨rfl, by rfl⟩
            · exfalso; (try simp only [decide_eq_true_eq, decide_eq_false_iff_not, Bool.not_eq_true', Bool.not_eq_false', Bool.not_eq_eq_eq_not, Bool.not_true, Bool.not_false, Bool.and_eq_true, Bool.or_eq_true, Bool.or_eq_false_iff, beq_iff_eq, beq_eq_false_iff_ne, ne_eq, Int.not_lt, Int.not_le, Decidable.not_not] at hg39); exact absurd (by decide) hg39
          · exfalso; (try simp only [decide_eq_true_eq, decide_eq_false_iff_not, Bool.not_eq_true', Bool.not_eq_false', Bool.not_eq_eq_eq_not, Bool.not_true, Bool.not_false, Bool.and_eq_true, Bool.or_eq_true, Bool.or_eq_false_iff, beq_iff_eq, beq_eq_false_iff_ne, ne_eq, Int.not_lt, Int.not_le, Decidable.not_not] at hg33); exact absurd (by decide) hg33
        · exfalso; (try simp only [decide_eq_true_eq, decide_eq_false_iff_not, Bool.not_eq_true', Bool.not_eq_false', Bool.not_eq_eq_eq_not, Bool.not_true, Bool.not_false, Bool.and_eq_true, Bool.or_eq_true, Bool.or_eq_false_iff, beq_iff_eq, beq_eq_false_iff_ne, ne_eq, Int.not_lt, Int.not_le, Decidable.not_not] at hg27); exact absurd (by decide) hg27
      · exfalso; (try simp only [decide_eq_true_eq, decide_eq_false_iff_not, Bool.not_eq_true', Bool.not_eq_false', Bool.not_eq_eq_eq_not, Bool.not_true, Bool.not_false, Bool.and_eq_true, Bool.or_eq_true, Bool.or_eq_false_iff, beq_iff_eq, beq_eq_false_iff_ne, ne_eq, Int.not_lt, Int.not_le, Decidable.not_not] at hg22); exact absurd (by decide) hg22
    · exfalso; (try simp only [decide_eq_true_eq, decide_eq_false_iff_not, Bool.not_eq_true', Bool.not_eq_false', Bool.not_eq_eq_eq_not, Bool.not_true, Bool.not_false, Bool.and_eq_true, Bool.or_eq_true, Bool.or_eq_false_iff, beq_iff_eq, beq_eq_false_iff_ne, ne_eq, Int.not_lt, Int.not_le, Decidable.not_not] at hg17); exact absurd (by decide) hg17
  · exfalso; (try simp only [decide_eq_true_eq, decide_eq_false_iff_not, Bool.not_eq_true', Bool.not_eq_false', Bool.not_eq_eq_eq_not, Bool.not_true, Bool.not_false, Bool.and_eq_true, Bool.or_eq_true, Bool.or_eq_false_iff, beq_iff_eq, beq_eq_false_iff_ne, ne_eq, Int.not_lt, Int.not_le, Decidable.not_not] at hg12); exact absurd (by decide) hg12

end Go.Proofs.Ytmnngdbcfdnefaa

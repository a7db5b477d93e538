import Derived.Test.YtgipbhfblmblcaaMemberFew
import Derived.Test.YtgipbhfblmblcaaMember4
import Derived.Test.YtgipbhfblmblcaaPMember4
set_option maxHeartbeats 8000000
set_option linter.unusedSimpArgs false
set_option linter.unusedVariables false
set_option maxRecDepth 100000
namespace Go.Proofs.Ytgipbhfblmblcaa
open Go Go.Proofs.Ytgipbhfblmblcaa.AM
theorem index_ok (l : List Int) (v : Int) (G : AHeap) (va : AV) (hva : va.view G = some (l.map (.int .i64))) (hl : l.length ≤ 1000000) : PCalls Try.prog 93 [va, .int .i64 v] G (fun r => r = .int .i64 (fidxZ (eqI v) l)) := by
  refine LCalls.intro 19 fi93 rfl Try.ntmps93 rfl (fun _ h => h.elim) (fun H hH w0 hw0 => ?_)
  have hva := view_sub hH hva
  refine g_seq (fun K0 hK0 => ?_)
  refine g_region ?_
  refine g_step rfl (s_val (v_assign rfl) rfl rfl ?_)
  refine g_nil ?_
  refine g_next hK0 ?_
  refine g_seq (fun K1 hK1 => ?_)
  refine g_seq (fun K2 hK2 => ?_)
  refine g_region ?_
  refine g_step rfl (s_val (v_move rfl) rfl rfl ?_)
  refine g_step rfl (s_val (v_len ty71 rfl (by first | rfl | assumption) (by first | exact List.length_map .. | rfl)) rfl rfl ?_)
  refine g_step rfl (s_val (v_move rfl) rfl rfl ?_)
  refine g_nil ?_
  refine g_next hK2 ?_
  refine g_block ?_
  first | refine g_keep [0, 1, 7, 8] [] [] (keep_cons rfl (keep_cons rfl (keep_cons rfl (keep_cons rfl keep_nil)))) lkeep_nil keep_nil rfl ?_ | refine g_keep [0, 1, 7, 8] [] [] rfl rfl rfl rfl ?_
  refine g_loop (fun n env L B G => ∃ (k : Nat) , k ≤ l.length ∧ n = l.length - k ∧ env = [(0, va), (1, .int .i64 v), (7, .int .i64 (l.length : Int)), (8, .int .i64 (k : Int))] ∧ L = [] ∧ B = [] ∧ H = G ∧ fidx (eqI v) (l.drop k) + k = fidx (eqI v) l) (l.length) ⟨0, Nat.zero_le _, rfl, rfl, rfl, rfl, rfl, rfl⟩ (fun n env L B G hI => ?_)
  obtain ⟨k, hk, rfl, rfl, rfl, rfl, rfl, hc⟩ := hI
  refine g_seq (fun K3 hK3 => ?_)
  refine g_region ?_
  refine g_step rfl (s_val (v_lss rfl rfl) rfl rfl ?_)
  refine g_nil ?_
  refine g_next hK3 ?_
  refine g_seq (fun K4 hK4 => ?_)
  refine g_cond rfl (fun hc9 => ?_) (fun hc9 => ?_)
  · try simp only [decide_eq_true_eq, decide_eq_false_iff_not, Bool.not_eq_true', Bool.not_eq_false', Bool.not_eq_eq_eq_not, Bool.not_true, Bool.not_false, Bool.and_eq_true, Bool.or_eq_true, Bool.or_eq_false_iff, beq_iff_eq, beq_eq_false_iff_ne, ne_eq, Int.not_lt, Int.not_le, Decidable.not_not] at hc9
    obtain ⟨x, hx⟩ := get_some (l := l) (k := k) (by omega)
    refine g_skip ?_
    refine g_next hK4 ?_
    refine g_seq (fun K5 hK5 => ?_)
    refine g_block ?_
    refine g_seq (fun K6 hK6 => ?_)
    refine g_region ?_
    refine g_step rfl (s_val (v_move rfl) rfl rfl ?_)
    refine g_step rfl (s_val (v_assign rfl) rfl rfl ?_)
    refine g_nil ?_
    refine g_next hK6 ?_
    refine g_seq (fun K7 hK7 => ?_)
    refine g_region ?_
    refine g_step rfl (s_val (v_move rfl) rfl rfl ?_)
    refine g_step rfl (s_val (v_move rfl) rfl rfl ?_)
    refine g_step rfl (s_val (v_move rfl) rfl rfl ?_)
    refine g_step rfl (s_val (v_indexAddr ty71 ty3 rfl rfl (by first | rfl | assumption) (by first | rfl | exact (rfl : (0 : Int) = ((0 : Nat) : Int)) | exact (Int.toNat_of_nonneg (by omega)).symm) (by first | assumption | exact map_get (by assumption) | rfl) rfl) rfl rfl ?_)
    refine g_step rfl (s_val (by first | exact v_load ty3 rfl rfl (by first | rfl | assumption) (by first | assumption | exact map_get (by assumption) | rfl) rfl | exact v_load_box ty3 rfl rfl (by assumption) rfl) rfl rfl ?_)
    refine g_step rfl (s_val (v_eql rfl rfl) rfl rfl ?_)
    refine g_nil ?_
    refine g_next hK7 ?_
    refine g_cond rfl (fun hc16 => ?_) (fun hc16 => ?_)
    · try simp only [decide_eq_true_eq, decide_eq_false_iff_not, Bool.not_eq_true', Bool.not_eq_false', Bool.not_eq_eq_eq_not, Bool.not_true, Bool.not_false, Bool.and_eq_true, Bool.or_eq_true, Bool.or_eq_false_iff, beq_iff_eq, beq_eq_false_iff_ne, ne_eq, Int.not_lt, Int.not_le, Decidable.not_not] at hc16
      refine g_seq (fun K8 hK8 => ?_)
      refine g_region ?_
      refine g_step rfl (s_val (v_move rfl) rfl rfl ?_)
      refine g_step rfl (s_val (v_assign rfl) rfl rfl ?_)
      refine g_nil ?_
      refine g_next hK8 ?_
      refine g_ret ?_
      refine g_block_ret ?_
      refine g_then_ret ?_
      refine g_then_ret ?_
      refine g_block_ret ?_
      refine g_then_ret ?_
      refine g_end1 (.inl rfl) Try.results93 (.tmp rfl) [] (ASub.refl _) (AHeap.sub_refl _) (fun p hp => by cases hp) ⟨rfl, ?_⟩
      first | (rw [fidxZ, fidx_hit hc hx (decide_eq_true (by omega)), if_pos (by omega)]; done) | (rw [fidxZ, fidx_hit hc hx (decide_eq_true (by omega)), if_pos (by omega)]; rfl)
    · try simp only [decide_eq_true_eq, decide_eq_false_iff_not, Bool.not_eq_true', Bool.not_eq_false', Bool.not_eq_eq_eq_not, Bool.not_true, Bool.not_false, Bool.and_eq_true, Bool.or_eq_true, Bool.or_eq_false_iff, beq_iff_eq, beq_eq_false_iff_ne, ne_eq, Int.not_lt, Int.not_le, Decidable.not_not] at hc16
      refine g_skip ?_
      refine g_block_normal ?_
      refine g_next hK5 ?_
      refine g_region ?_
      refine g_step rfl (s_val (v_add rfl rfl (by omega)) rfl rfl ?_)
      refine g_step rfl (s_val (v_move rfl) rfl rfl ?_)
      refine g_nil ?_
      first | refine g_keep [0, 1, 7, 8] [] [] (keep_cons rfl (keep_cons rfl (keep_cons rfl (keep_cons rfl keep_nil)))) lkeep_nil keep_nil rfl ?_ | refine g_keep [0, 1, 7, 8] [] [] rfl rfl rfl rfl ?_
      exact g_round _ (by omega) ⟨k + 1, by omega, rfl, rfl, rfl, rfl, rfl, fidx_miss hc hx (decide_eq_false (by omega))⟩
  · try simp only [decide_eq_true_eq, decide_eq_false_iff_not, Bool.not_eq_true', Bool.not_eq_false', Bool.not_eq_eq_eq_not, Bool.not_true, Bool.not_false, Bool.and_eq_true, Bool.or_eq_true, Bool.or_eq_false_iff, beq_iff_eq, beq_eq_false_iff_ne, ne_eq, Int.not_lt, Int.not_le, Decidable.not_not] at hc9
    obtain rfl : k = l.length := by omega
    refine g_exit ?_
    refine g_then_exit ?_
    refine g_then_exit ?_
    refine g_block_same ?_
    refine g_next hK1 ?_
    refine g_seq (fun K9 hK9 => ?_)
    refine g_region ?_
    refine g_step rfl (s_val (v_assign rfl) rfl rfl ?_)
    refine g_nil ?_
    refine g_next hK9 ?_
    refine g_ret ?_
    refine g_end1 (.inl rfl) Try.results93 (.tmp rfl) [] (ASub.refl _) (AHeap.sub_refl _) (fun p hp => by cases hp) ⟨rfl, ?_⟩
    first | (rw [fidxZ, fidx_end hc, if_neg (by omega)]; done) | (rw [fidxZ, fidx_end hc, if_neg (by omega)]; rfl)

theorem contains_ok (l : List Int) (v : Int) (G : AHeap) (va : AV) (hva : va.view G = some (l.map (.int .i64))) (hl : l.length ≤ 1000000) : PCalls Try.prog 73 [va, .int .i64 v] G (fun r => r = .bool (l.any (eqI v))) := by
  refine LCalls.intro 9 fi73 rfl Try.ntmps73 rfl (fun _ h => h.elim) (fun H hH w0 hw0 => ?_)
  have hva := view_sub hH hva
  refine g_seq (fun K0 hK0 => ?_)
  refine g_region ?_
  refine g_step rfl (s_val (v_assign rfl) rfl rfl ?_)
  refine g_nil ?_
  refine g_next hK0 ?_
  refine g_seq (fun K1 hK1 => ?_)
  refine g_region ?_
  refine g_step rfl (s_val (v_move rfl) rfl rfl ?_)
  refine g_step rfl (s_val (v_move rfl) rfl rfl ?_)
  refine g_step rfl (s_callp rfl rfl rfl (index_ok l v _ va hva hl) ?_)
  rintro _ rfl
  refine g_step rfl (s_val (v_geq rfl rfl) rfl rfl ?_)
  refine g_step rfl (s_val (v_assign rfl) rfl rfl ?_)
  refine g_nil ?_
  refine g_next hK1 ?_
  refine g_ret ?_
  refine g_end1 (.inl rfl) Try.results73 (.tmp rfl) [] (ASub.refl _) (AHeap.sub_refl _) (fun p hp => by cases hp) ⟨rfl, ?_⟩
  first | (rw [← fidxZ_any]; done) | (rw [← fidxZ_any]; rfl)

theorem same25_ok (a b : List Int) (G : AHeap) (va vb : AV) (hva : va.view G = some (a.map (.int .i64))) (hvb : vb.view G = some (b.map (.int .i64))) (hl : a.length ≤ 1000000) : PCalls Try.prog 35 [va, vb] G (fun r => r = .bool (decide (a = b))) := by
  refine LCalls.intro 26 fi35 rfl Try.ntmps35 rfl (fun _ h => h.elim) (fun H hH w0 hw0 => ?_)
  have hva := view_sub hH hva
  have hvb := view_sub hH hvb
  refine g_seq (fun K0 hK0 => ?_)
  refine g_region ?_
  refine g_step rfl (s_val (v_assign rfl) rfl rfl ?_)
  refine g_nil ?_
  refine g_next hK0 ?_
  refine g_seq (fun K1 hK1 => ?_)
  refine g_seq (fun K2 hK2 => ?_)
  refine g_region ?_
  refine g_step rfl (s_val (v_move rfl) rfl rfl ?_)
  refine g_step rfl (s_val (v_len ty71 rfl (by first | rfl | assumption) (by first | exact List.length_map .. | rfl)) rfl rfl ?_)
  refine g_step rfl (s_val (v_move rfl) rfl rfl ?_)
  refine g_step rfl (s_val (v_len ty71 rfl (by first | rfl | assumption) (by first | exact List.length_map .. | rfl)) rfl rfl ?_)
  refine g_step rfl (s_val (v_neq rfl rfl) rfl rfl ?_)
  refine g_nil ?_
  refine g_next hK2 ?_
  refine g_cond rfl (fun hc10 => ?_) (fun hc10 => ?_)
  · try simp only [decide_eq_true_eq, decide_eq_false_iff_not, Bool.not_eq_true', Bool.not_eq_false', Bool.not_eq_eq_eq_not, Bool.not_true, Bool.not_false, Bool.and_eq_true, Bool.or_eq_true, Bool.or_eq_false_iff, beq_iff_eq, beq_eq_false_iff_ne, ne_eq, Int.not_lt, Int.not_le, Decidable.not_not] at hc10
    have hne : a ≠ b := fun e => hc10 (by rw [e])
    refine g_seq (fun K3 hK3 => ?_)
    refine g_region ?_
    refine g_step rfl (s_val (v_assign rfl) rfl rfl ?_)
    refine g_nil ?_
    refine g_next hK3 ?_
    refine g_ret ?_
    refine g_then_ret ?_
    refine g_end1 (.inl rfl) Try.results35 (.tmp rfl) [] (ASub.refl _) (AHeap.sub_refl _) (fun p hp => by cases hp) ⟨rfl, ?_⟩
    first | (simp [hne]; done) | (simp [hne]; rfl)
  · try simp only [decide_eq_true_eq, decide_eq_false_iff_not, Bool.not_eq_true', Bool.not_eq_false', Bool.not_eq_eq_eq_not, Bool.not_true, Bool.not_false, Bool.and_eq_true, Bool.or_eq_true, Bool.or_eq_false_iff, beq_iff_eq, beq_eq_false_iff_ne, ne_eq, Int.not_lt, Int.not_le, Decidable.not_not] at hc10
    refine g_skip ?_
    refine g_next hK1 ?_
    refine g_seq (fun K4 hK4 => ?_)
    refine g_seq (fun K5 hK5 => ?_)
    refine g_region ?_
    refine g_step rfl (s_val (v_assign rfl) rfl rfl ?_)
    refine g_nil ?_
    refine g_next hK5 ?_
    refine g_block ?_
    first | refine g_keep [0, 1, 5] [] [] (keep_cons rfl (keep_cons rfl (keep_cons rfl keep_nil))) lkeep_nil keep_nil rfl ?_ | refine g_keep [0, 1, 5] [] [] rfl rfl rfl rfl ?_
    refine g_loop (fun n env L B G => ∃ (k : Nat) , k ≤ a.length ∧ n = a.length - k ∧ env = [(0, va), (1, vb), (5, .int .i64 (k : Int))] ∧ L = [] ∧ B = [] ∧ H = G ∧ a.take k = b.take k) (a.length) ⟨0, Nat.zero_le _, rfl, rfl, rfl, rfl, rfl, rfl⟩ (fun n env L B G hI => ?_)
    obtain ⟨k, hk, rfl, rfl, rfl, rfl, rfl, hc⟩ := hI
    refine g_seq (fun K6 hK6 => ?_)
    refine g_seq (fun K7 hK7 => ?_)
    refine g_region ?_
    refine g_step rfl (s_val (v_move rfl) rfl rfl ?_)
    refine g_step rfl (s_val (v_move rfl) rfl rfl ?_)
    refine g_step rfl (s_val (v_len ty71 rfl (by first | rfl | assumption) (by first | exact List.length_map .. | rfl)) rfl rfl ?_)
    refine g_step rfl (s_val (v_lss rfl rfl) rfl rfl ?_)
    refine g_nil ?_
    refine g_next hK7 ?_
    refine g_cond rfl (fun hc14 => ?_) (fun hc14 => ?_)
    · try simp only [decide_eq_true_eq, decide_eq_false_iff_not, Bool.not_eq_true', Bool.not_eq_false', Bool.not_eq_eq_eq_not, Bool.not_true, Bool.not_false, Bool.and_eq_true, Bool.or_eq_true, Bool.or_eq_false_iff, beq_iff_eq, beq_eq_false_iff_ne, ne_eq, Int.not_lt, Int.not_le, Decidable.not_not] at hc14
      obtain ⟨x, hx⟩ := get_some (l := a) (k := k) (by omega)
      obtain ⟨y, hy⟩ := get_some (l := b) (k := k) (by omega)
      refine g_skip ?_
      refine g_next hK6 ?_
      refine g_seq (fun K8 hK8 => ?_)
      refine g_block ?_
      refine g_seq (fun K9 hK9 => ?_)
      refine g_draw (n := 9) (fun j => !([] : List Nat).contains j) rfl rfl ?_
      refine m_take 0 false rfl rfl (by kernel_rfl) (by kernel_rfl) (by kernel_rfl) (fun _ _ _ _ h => h) (v_move rfl) rfl rfl ?_
      refine m_take 1 false rfl rfl (by kernel_rfl) (by kernel_rfl) (by kernel_rfl) (fun _ _ _ _ h => h) (v_move rfl) rfl rfl ?_
      refine m_take 2 false rfl rfl (by kernel_rfl) (by kernel_rfl) (by kernel_rfl) (fun _ _ _ _ h => h) (v_indexAddr ty71 ty3 rfl rfl (by first | rfl | assumption) (by first | rfl | exact (rfl : (0 : Int) = ((0 : Nat) : Int)) | exact (Int.toNat_of_nonneg (by omega)).symm) (by first | assumption | exact map_get (by assumption) | rfl) rfl) rfl rfl ?_
      refine m_take 3 true rfl rfl (by kernel_rfl) (by kernel_rfl) (by kernel_rfl) (fun _ _ _ _ h => h) (by first | exact v_load ty3 rfl rfl (by first | rfl | assumption) (by first | assumption | exact map_get (by assumption) | rfl) rfl | exact v_load_box ty3 rfl rfl (by assumption) rfl) rfl rfl ?_
      refine m_take 4 false rfl rfl (by kernel_rfl) (by kernel_rfl) (by kernel_rfl) (fun _ _ _ _ h => h) (v_move rfl) rfl rfl ?_
      refine m_take 5 false rfl rfl (by kernel_rfl) (by kernel_rfl) (by kernel_rfl) (fun _ _ _ _ h => h) (v_move rfl) rfl rfl ?_
      refine m_take 6 false rfl rfl (by kernel_rfl) (by kernel_rfl) (by kernel_rfl) (fun _ _ _ _ h => h) (v_indexAddr ty71 ty3 rfl rfl (by first | rfl | assumption) (by first | rfl | exact (rfl : (0 : Int) = ((0 : Nat) : Int)) | exact (Int.toNat_of_nonneg (by omega)).symm) (by first | assumption | exact map_get (by assumption) | rfl) rfl) rfl rfl ?_
      refine m_take 7 true rfl rfl (by kernel_rfl) (by kernel_rfl) (by kernel_rfl) (fun _ _ _ _ h => h) (by first | exact v_load ty3 rfl rfl (by first | rfl | assumption) (by first | assumption | exact map_get (by assumption) | rfl) rfl | exact v_load_box ty3 rfl rfl (by assumption) rfl) rfl rfl ?_
      refine m_take 8 false rfl rfl (by kernel_rfl) (by kernel_rfl) (by kernel_rfl) (fun _ _ _ _ h => h) (v_neq rfl rfl) rfl rfl ?_
      refine m_done (by kernel_rfl) ?_
      refine g_next hK9 ?_
      refine g_cond rfl (fun hc25 => ?_) (fun hc25 => ?_)
      · try simp only [decide_eq_true_eq, decide_eq_false_iff_not, Bool.not_eq_true', Bool.not_eq_false', Bool.not_eq_eq_eq_not, Bool.not_true, Bool.not_false, Bool.and_eq_true, Bool.or_eq_true, Bool.or_eq_false_iff, beq_iff_eq, beq_eq_false_iff_ne, ne_eq, Int.not_lt, Int.not_le, Decidable.not_not] at hc25
        refine g_seq (fun K10 hK10 => ?_)
        refine g_region ?_
        refine g_step rfl (s_val (v_assign rfl) rfl rfl ?_)
        refine g_nil ?_
        refine g_next hK10 ?_
        refine g_ret ?_
        refine g_block_ret ?_
        refine g_then_ret ?_
        refine g_then_ret ?_
        refine g_block_ret ?_
        refine g_then_ret ?_
        refine g_end1 (.inl rfl) Try.results35 (.tmp rfl) [] (ASub.refl _) (AHeap.sub_refl _) (fun p hp => by cases hp) ⟨rfl, ?_⟩
        first | (rw [decide_eq_false (fun e => by subst e; rw [hx] at hy; cases hy; simp_all)]; done) | (rw [decide_eq_false (fun e => by subst e; rw [hx] at hy; cases hy; simp_all)]; rfl)
      · try simp only [decide_eq_true_eq, decide_eq_false_iff_not, Bool.not_eq_true', Bool.not_eq_false', Bool.not_eq_eq_eq_not, Bool.not_true, Bool.not_false, Bool.and_eq_true, Bool.or_eq_true, Bool.or_eq_false_iff, beq_iff_eq, beq_eq_false_iff_ne, ne_eq, Int.not_lt, Int.not_le, Decidable.not_not] at hc25
        refine g_skip ?_
        refine g_block_normal ?_
        refine g_next hK8 ?_
        refine g_region ?_
        refine g_step rfl (s_val (v_move rfl) rfl rfl ?_)
        refine g_step rfl (s_val (v_add rfl rfl (by omega)) rfl rfl ?_)
        refine g_step rfl (s_val (v_assign rfl) rfl rfl ?_)
        refine g_nil ?_
        first | refine g_keep [0, 1, 5] [] [] (keep_cons rfl (keep_cons rfl (keep_cons rfl keep_nil))) lkeep_nil keep_nil rfl ?_ | refine g_keep [0, 1, 5] [] [] rfl rfl rfl rfl ?_
        exact g_round _ (by omega) ⟨k + 1, by omega, rfl, rfl, rfl, rfl, rfl, by rw [List.take_add_one, List.take_add_one, hc, hx, hy, show x = y by omega]⟩
    · try simp only [decide_eq_true_eq, decide_eq_false_iff_not, Bool.not_eq_true', Bool.not_eq_false', Bool.not_eq_eq_eq_not, Bool.not_true, Bool.not_false, Bool.and_eq_true, Bool.or_eq_true, Bool.or_eq_false_iff, beq_iff_eq, beq_eq_false_iff_ne, ne_eq, Int.not_lt, Int.not_le, Decidable.not_not] at hc14
      obtain rfl : k = a.length := by omega
      have hab : a = b := by rw [List.take_length, List.take_of_length_le (by omega)] at hc; exact hc
      refine g_exit ?_
      refine g_then_exit ?_
      refine g_then_exit ?_
      refine g_block_same ?_
      refine g_next hK4 ?_
      refine g_seq (fun K11 hK11 => ?_)
      refine g_region ?_
      refine g_step rfl (s_val (v_assign rfl) rfl rfl ?_)
      refine g_nil ?_
      refine g_next hK11 ?_
      refine g_ret ?_
      refine g_end1 (.inl rfl) Try.results35 (.tmp rfl) [] (ASub.refl _) (AHeap.sub_refl _) (fun p hp => by cases hp) ⟨rfl, ?_⟩
      first | (simp [hab]; done) | (simp [hab]; rfl)

theorem others25O (me room s : Int) (l : List Rc) (G : AHeap) (hl : l.length ≤ 1000) : LCalls Try.prog 37 [mdl me room l, .int .i64 s] G noD (fun n r effs => OwnR n 1 r ((othT me l s).map (.int .i64)) effs) := by
  refine LCalls.intro 47 fi37 rfl Try.ntmps37 rfl (fun _ h => h.elim) (fun H hH w0 hw0 => ?_)
  refine g_seq (fun K0 hK0 => ?_)
  refine g_region ?_
  refine g_step rfl (s_box rfl rfl rfl rfl ?_)
  refine g_step rfl (s_val (v_assign rfl) rfl rfl ?_)
  refine g_nil ?_
  refine g_next hK0 ?_
  refine g_seq (fun K1 hK1 => ?_)
  refine g_region ?_
  refine g_step rfl (s_val (v_assign rfl) rfl rfl ?_)
  refine g_nil ?_
  refine g_next hK1 ?_
  refine g_seq (fun K2 hK2 => ?_)
  refine g_seq (fun K3 hK3 => ?_)
  refine g_region ?_
  refine g_step rfl (s_val (v_assign rfl) rfl rfl ?_)
  refine g_nil ?_
  refine g_next hK3 ?_
  refine g_block ?_
  first | refine g_keep [1, 5, 6] [2] [2] (keep_cons rfl (keep_cons rfl (keep_cons rfl keep_nil))) (lkeep_cons rfl lkeep_nil) (keep_cons rfl keep_nil) rfl ?_ | refine g_keep [1, 5, 6] [2] [2] rfl rfl rfl rfl ?_
  refine g_loop (fun n env L B G => ∃ (k : Nat) (av : AV), k ≤ l.length ∧ n = l.length - k ∧ env = [(1, .int .i64 s), (5, av), (6, .int .i64 (k : Int))] ∧ L = [(2, 2, 0)] ∧ B = [(2, (mdl me room l))] ∧ Own w0.heap.size 1 H av ((((l.take k).filter (othR me s)).map (·.id)).map (.int .i64)) G) (l.length) ⟨0, .nil0, Nat.zero_le _, rfl, rfl, rfl, rfl, Own.nil ..⟩ (fun n env L B G hI => ?_)
  obtain ⟨k, av, hk, rfl, rfl, rfl, rfl, hown⟩ := hI
  refine g_seq (fun K4 hK4 => ?_)
  refine g_seq (fun K5 hK5 => ?_)
  refine g_region ?_
  refine g_step rfl (s_val (v_move rfl) rfl rfl ?_)
  refine g_step rfl (s_fieldAddr ty61 fo61_2 ty22 rfl rfl ?_)
  refine g_step rfl (s_val (v_loadl ty22 rfl rfl rfl rfl) rfl rfl ?_)
  refine g_step rfl (s_val (v_len ty22 rfl (by first | rfl | assumption) (by first | exact List.length_map .. | rfl)) rfl rfl ?_)
  refine g_step rfl (s_val (v_lss rfl rfl) rfl rfl ?_)
  refine g_nil ?_
  refine g_next hK5 ?_
  refine g_cond rfl (fun hc11 => ?_) (fun hc11 => ?_)
  · try simp only [decide_eq_true_eq, decide_eq_false_iff_not, Bool.not_eq_true', Bool.not_eq_false', Bool.not_eq_eq_eq_not, Bool.not_true, Bool.not_false, Bool.and_eq_true, Bool.or_eq_true, Bool.or_eq_false_iff, beq_iff_eq, beq_eq_false_iff_ne, ne_eq, Int.not_lt, Int.not_le, Decidable.not_not] at hc11
    obtain ⟨x, hx⟩ := get_some (l := l) (k := k) (by omega)
    have hol := oth_len2 (p := (othR me s)) (l := l) (k := k)
    refine g_skip ?_
    refine g_next hK4 ?_
    refine g_seq (fun K6 hK6 => ?_)
    refine g_block ?_
    refine g_seq (fun K7 hK7 => ?_)
    refine g_draw (n := 23) (fun j => !([] : List Nat).contains j) rfl rfl ?_
    refine m_takel 0 rfl rfl (by kernel_rfl) (by kernel_rfl) (by kernel_rfl) (fun _ _ _ _ h => h) (vl_fieldAddr ty61 fo61_2 ty22 rfl) rfl rfl ?_
    refine m_take 1 true rfl rfl (by kernel_rfl) (by kernel_rfl) (by kernel_rfl) (fun _ _ _ _ h => h) (v_loadl ty22 rfl rfl rfl rfl) rfl rfl ?_
    refine m_take 2 false rfl rfl (by kernel_rfl) (by kernel_rfl) (by kernel_rfl) (fun _ _ _ _ h => h) (v_move rfl) rfl rfl ?_
    refine m_take 3 false rfl rfl (by kernel_rfl) (by kernel_rfl) (by kernel_rfl) (fun _ _ _ _ h => h) (v_indexAddr ty22 ty46 rfl rfl (by first | rfl | assumption) (by first | rfl | exact (rfl : (0 : Int) = ((0 : Nat) : Int)) | exact (Int.toNat_of_nonneg (by omega)).symm) (map_get hx) rfl) rfl rfl ?_
    refine m_take 4 false rfl rfl (by kernel_rfl) (by kernel_rfl) (by kernel_rfl) (fun _ _ _ _ h => h) (by first | exact v_fieldAddr ty46 fo46_0 ty3 rfl | exact v_fieldAddr_box ty46 fo46_0 ty3 rfl) rfl rfl ?_
    refine m_take 5 true rfl rfl (by kernel_rfl) (by kernel_rfl) (by kernel_rfl) (fun _ _ _ _ h => h) (by first | exact v_load ty3 rfl rfl (by first | rfl | assumption) (map_get hx) rfl | exact v_load_box ty3 rfl rfl (by assumption) rfl) rfl rfl ?_
    refine m_takel 6 rfl rfl (by kernel_rfl) (by kernel_rfl) (by kernel_rfl) (fun _ _ _ _ h => h) (vl_fieldAddr ty61 fo61_0 ty3 rfl) rfl rfl ?_
    refine m_take 7 true rfl rfl (by kernel_rfl) (by kernel_rfl) (by kernel_rfl) (fun _ _ _ _ h => h) (v_loadl ty3 rfl rfl rfl rfl) rfl rfl ?_
    refine m_take 8 false rfl rfl (by kernel_rfl) (by kernel_rfl) (by kernel_rfl) (fun _ _ _ _ h => h) (v_neq rfl rfl) rfl rfl ?_
    refine m_take 9 false rfl rfl (by kernel_rfl) (by kernel_rfl) (by kernel_rfl) (fun _ _ _ _ h => h) (v_move rfl) rfl rfl ?_
    refine m_split 23 rfl (fun hg23 => ?_) (fun hg23 => ?_)
    · try simp only [decide_eq_true_eq, decide_eq_false_iff_not, Bool.not_eq_true', Bool.not_eq_false', Bool.not_eq_eq_eq_not, Bool.not_true, Bool.not_false, Bool.and_eq_true, Bool.or_eq_true, Bool.or_eq_false_iff, beq_iff_eq, beq_eq_false_iff_ne, ne_eq, Int.not_lt, Int.not_le, Decidable.not_not] at hg23
      refine m_take_yes (j := 9) (t := 23) 10 false rfl rfl rfl rfl rfl (by kernel_rfl) (by kernel_rfl) (by kernel_rfl) (fun _ _ _ _ h => h) (v_move rfl) rfl rfl ?_
      refine m_take_yes (j := 9) (t := 23) 11 false rfl rfl rfl rfl rfl (by kernel_rfl) (by kernel_rfl) (by kernel_rfl) (fun _ _ _ _ h => h) (v_lss rfl rfl) rfl rfl ?_
      refine m_take_yes (j := 9) (t := 23) 12 false rfl rfl rfl rfl rfl (by kernel_rfl) (by kernel_rfl) (by kernel_rfl) (fun _ _ _ _ h => h) (v_move rfl) rfl rfl ?_
      refine m_split 26 rfl (fun hg26 => ?_) (fun hg26 => ?_)
      · try simp only [decide_eq_true_eq, decide_eq_false_iff_not, Bool.not_eq_true', Bool.not_eq_false', Bool.not_eq_eq_eq_not, Bool.not_true, Bool.not_false, Bool.and_eq_true, Bool.or_eq_true, Bool.or_eq_false_iff, beq_iff_eq, beq_eq_false_iff_ne, ne_eq, Int.not_lt, Int.not_le, Decidable.not_not] at hg26
        refine m_take_no (j := 12) (t := 26) 13 rfl rfl rfl rfl rfl rfl (by kernel_rfl) (by kernel_rfl) (by kernel_rfl) (fun _ _ _ _ h => h) rfl rfl ?_
        refine m_take_no (j := 12) (t := 26) 14 rfl rfl rfl rfl rfl rfl (by kernel_rfl) (by kernel_rfl) (by kernel_rfl) (fun _ _ _ _ h => h) rfl rfl ?_
        refine m_take_no (j := 12) (t := 26) 15 rfl rfl rfl rfl rfl rfl (by kernel_rfl) (by kernel_rfl) (by kernel_rfl) (fun _ _ _ _ h => h) rfl rfl ?_
        refine m_take_no (j := 12) (t := 26) 16 rfl rfl rfl rfl rfl rfl (by kernel_rfl) (by kernel_rfl) (by kernel_rfl) (fun _ _ _ _ h => h) rfl rfl ?_
        refine m_take_no (j := 12) (t := 26) 17 rfl rfl rfl rfl rfl rfl (by kernel_rfl) (by kernel_rfl) (by kernel_rfl) (fun _ _ _ _ h => h) rfl rfl ?_
        refine m_take_no (j := 12) (t := 26) 18 rfl rfl rfl rfl rfl rfl (by kernel_rfl) (by kernel_rfl) (by kernel_rfl) (fun _ _ _ _ h => h) rfl rfl ?_
        refine m_take_no (j := 12) (t := 26) 19 rfl rfl rfl rfl rfl rfl (by kernel_rfl) (by kernel_rfl) (by kernel_rfl) (fun _ _ _ _ h => h) rfl rfl ?_
        refine m_take_no (j := 12) (t := 26) 20 rfl rfl rfl rfl rfl rfl (by kernel_rfl) (by kernel_rfl) (by kernel_rfl) (fun _ _ _ _ h => h) rfl rfl ?_
        refine m_take_yes (j := 9) (t := 23) 21 false rfl rfl rfl rfl rfl (by kernel_rfl) (by kernel_rfl) (by kernel_rfl) (fun _ _ _ _ h => h) (v_pick_t rfl rfl) rfl rfl ?_
        refine m_take 22 false rfl rfl (by kernel_rfl) (by kernel_rfl) (by kernel_rfl) (fun _ _ _ _ h => h) (v_pick_t rfl rfl) rfl rfl ?_
        refine m_done (by kernel_rfl) ?_
        refine g_next hK7 ?_
        first | refine g_keep [1, 5, 6, 36] [2] [2] (keep_cons rfl (keep_cons rfl (keep_cons rfl (keep_cons rfl keep_nil)))) (lkeep_cons rfl lkeep_nil) (keep_cons rfl keep_nil) rfl ?_ | refine g_keep [1, 5, 6, 36] [2] [2] rfl rfl rfl rfl ?_
        refine g_cond rfl (fun _ => ?_) (fun h => by cases h)
        refine g_region ?_
        refine g_step rfl (s_val (v_move rfl) rfl rfl ?_)
        refine g_step rfl (s_fieldAddr ty61 fo61_2 ty22 rfl rfl ?_)
        refine g_step rfl (s_val (v_loadl ty22 rfl rfl rfl rfl) rfl rfl ?_)
        refine g_step rfl (s_val (v_move rfl) rfl rfl ?_)
        refine g_step rfl (s_val (v_indexAddr ty22 ty46 rfl rfl (by first | rfl | assumption) (by first | rfl | exact (rfl : (0 : Int) = ((0 : Nat) : Int)) | exact (Int.toNat_of_nonneg (by omega)).symm) (map_get hx) rfl) rfl rfl ?_)
        refine g_step rfl (s_val (by first | exact v_fieldAddr ty46 fo46_0 ty3 rfl | exact v_fieldAddr_box ty46 fo46_0 ty3 rfl) rfl rfl ?_)
        refine g_step rfl (s_val (by first | exact v_load ty3 rfl rfl (by first | rfl | assumption) (map_get hx) rfl | exact v_load_box ty3 rfl rfl (by assumption) rfl) rfl rfl ?_)
        refine g_step rfl (s_lit ty71 ty3 rfl rfl rfl rfl rfl rfl rfl ?_)
        refine g_step rfl (s_append (l := ((((l.take k).filter (othR me s)).map (·.id)).map (.int .i64))) (m := ([x.id].map (.int .i64))) ty71 ty3 rfl rfl hown rfl rfl (by refine Even.map _ ?_ _; intro _; rfl) (by intro x hx; obtain ⟨_, _, rfl⟩ := List.mem_map.1 hx; rfl) rfl (by simp; omega) (by simp; omega) ?_)
        intro av45 G45 hown45
        refine g_step rfl (s_val (v_assign rfl) rfl rfl ?_)
        refine g_nil ?_
        refine g_block_normal ?_
        refine g_next hK6 ?_
        refine g_region ?_
        refine g_step rfl (s_val (v_move rfl) rfl rfl ?_)
        refine g_step rfl (s_val (v_add rfl rfl (by omega)) rfl rfl ?_)
        refine g_step rfl (s_val (v_assign rfl) rfl rfl ?_)
        refine g_nil ?_
        first | refine g_keep [1, 5, 6] [2] [2] (keep_cons rfl (keep_cons rfl (keep_cons rfl keep_nil))) (lkeep_cons rfl lkeep_nil) (keep_cons rfl keep_nil) rfl ?_ | refine g_keep [1, 5, 6] [2] [2] rfl rfl rfl rfl ?_
        first | exact g_round _ (by omega) ⟨k + 1, _, by omega, rfl, rfl, rfl, rfl, by rw [filter_snoc hx, if_pos (by simp_all [othR]), List.map_append, List.map_append]; exact hown45⟩ | exact g_round _ (by omega) ⟨k + 1, _, by omega, rfl, rfl, rfl, rfl, by rw [filter_snoc hx, if_neg (by simp_all [othR]), List.append_nil]; exact hown⟩
      · try simp only [decide_eq_true_eq, decide_eq_false_iff_not, Bool.not_eq_true', Bool.not_eq_false', Bool.not_eq_eq_eq_not, Bool.not_true, Bool.not_false, Bool.and_eq_true, Bool.or_eq_true, Bool.or_eq_false_iff, beq_iff_eq, beq_eq_false_iff_ne, ne_eq, Int.not_lt, Int.not_le, Decidable.not_not] at hg26
        refine m_takel_yes (j := 12) (t := 26) 13 rfl rfl rfl rfl rfl (by kernel_rfl) (by kernel_rfl) (by kernel_rfl) (fun _ _ _ _ h => h) (vl_fieldAddr ty61 fo61_2 ty22 rfl) rfl rfl ?_
        refine m_take_yes (j := 12) (t := 26) 14 true rfl rfl rfl rfl rfl (by kernel_rfl) (by kernel_rfl) (by kernel_rfl) (fun _ _ _ _ h => h) (v_loadl ty22 rfl rfl rfl rfl) rfl rfl ?_
        refine m_take_yes (j := 12) (t := 26) 15 false rfl rfl rfl rfl rfl (by kernel_rfl) (by kernel_rfl) (by kernel_rfl) (fun _ _ _ _ h => h) (v_move rfl) rfl rfl ?_
        refine m_take_yes (j := 12) (t := 26) 16 false rfl rfl rfl rfl rfl (by kernel_rfl) (by kernel_rfl) (by kernel_rfl) (fun _ _ _ _ h => h) (v_indexAddr ty22 ty46 rfl rfl (by first | rfl | assumption) (by first | rfl | exact (rfl : (0 : Int) = ((0 : Nat) : Int)) | exact (Int.toNat_of_nonneg (by omega)).symm) (map_get hx) rfl) rfl rfl ?_
        refine m_take_yes (j := 12) (t := 26) 17 false rfl rfl rfl rfl rfl (by kernel_rfl) (by kernel_rfl) (by kernel_rfl) (fun _ _ _ _ h => h) (by first | exact v_fieldAddr ty46 fo46_2 ty3 rfl | exact v_fieldAddr_box ty46 fo46_2 ty3 rfl) rfl rfl ?_
        refine m_take_yes (j := 12) (t := 26) 18 true rfl rfl rfl rfl rfl (by kernel_rfl) (by kernel_rfl) (by kernel_rfl) (fun _ _ _ _ h => h) (by first | exact v_load ty3 rfl rfl (by first | rfl | assumption) (map_get hx) rfl | exact v_load_box ty3 rfl rfl (by assumption) rfl) rfl rfl ?_
        refine m_take_yes (j := 12) (t := 26) 19 false rfl rfl rfl rfl rfl (by kernel_rfl) (by kernel_rfl) (by kernel_rfl) (fun _ _ _ _ h => h) (v_move rfl) rfl rfl ?_
        refine m_take_yes (j := 12) (t := 26) 20 false rfl rfl rfl rfl rfl (by kernel_rfl) (by kernel_rfl) (by kernel_rfl) (fun _ _ _ _ h => h) (v_eql rfl rfl) rfl rfl ?_
        refine m_take_yes (j := 9) (t := 23) 21 false rfl rfl rfl rfl rfl (by kernel_rfl) (by kernel_rfl) (by kernel_rfl) (fun _ _ _ _ h => h) (v_pick_f rfl rfl) rfl rfl ?_
        refine m_take 22 false rfl rfl (by kernel_rfl) (by kernel_rfl) (by kernel_rfl) (fun _ _ _ _ h => h) (v_pick_t rfl rfl) rfl rfl ?_
        refine m_done (by kernel_rfl) ?_
        refine g_next hK7 ?_
        first | refine g_keep [1, 5, 6, 36] [2] [2] (keep_cons rfl (keep_cons rfl (keep_cons rfl (keep_cons rfl keep_nil)))) (lkeep_cons rfl lkeep_nil) (keep_cons rfl keep_nil) rfl ?_ | refine g_keep [1, 5, 6, 36] [2] [2] rfl rfl rfl rfl ?_
        refine g_cond rfl (fun hc36 => ?_) (fun hc36 => ?_)
        · try simp only [decide_eq_true_eq, decide_eq_false_iff_not, Bool.not_eq_true', Bool.not_eq_false', Bool.not_eq_eq_eq_not, Bool.not_true, Bool.not_false, Bool.and_eq_true, Bool.or_eq_true, Bool.or_eq_false_iff, beq_iff_eq, beq_eq_false_iff_ne, ne_eq, Int.not_lt, Int.not_le, Decidable.not_not] at hc36
          refine g_region ?_
          refine g_step rfl (s_val (v_move rfl) rfl rfl ?_)
          refine g_step rfl (s_fieldAddr ty61 fo61_2 ty22 rfl rfl ?_)
          refine g_step rfl (s_val (v_loadl ty22 rfl rfl rfl rfl) rfl rfl ?_)
          refine g_step rfl (s_val (v_move rfl) rfl rfl ?_)
          refine g_step rfl (s_val (v_indexAddr ty22 ty46 rfl rfl (by first | rfl | assumption) (by first | rfl | exact (rfl : (0 : Int) = ((0 : Nat) : Int)) | exact (Int.toNat_of_nonneg (by omega)).symm) (map_get hx) rfl) rfl rfl ?_)
          refine g_step rfl (s_val (by first | exact v_fieldAddr ty46 fo46_0 ty3 rfl | exact v_fieldAddr_box ty46 fo46_0 ty3 rfl) rfl rfl ?_)
          refine g_step rfl (s_val (by first | exact v_load ty3 rfl rfl (by first | rfl | assumption) (map_get hx) rfl | exact v_load_box ty3 rfl rfl (by assumption) rfl) rfl rfl ?_)
          refine g_step rfl (s_lit ty71 ty3 rfl rfl rfl rfl rfl rfl rfl ?_)
          refine g_step rfl (s_append (l := ((((l.take k).filter (othR me s)).map (·.id)).map (.int .i64))) (m := ([x.id].map (.int .i64))) ty71 ty3 rfl rfl hown rfl rfl (by refine Even.map _ ?_ _; intro _; rfl) (by intro x hx; obtain ⟨_, _, rfl⟩ := List.mem_map.1 hx; rfl) rfl (by simp; omega) (by simp; omega) ?_)
          intro av45 G45 hown45
          refine g_step rfl (s_val (v_assign rfl) rfl rfl ?_)
          refine g_nil ?_
          refine g_block_normal ?_
          refine g_next hK6 ?_
          refine g_region ?_
          refine g_step rfl (s_val (v_move rfl) rfl rfl ?_)
          refine g_step rfl (s_val (v_add rfl rfl (by omega)) rfl rfl ?_)
          refine g_step rfl (s_val (v_assign rfl) rfl rfl ?_)
          refine g_nil ?_
          first | refine g_keep [1, 5, 6] [2] [2] (keep_cons rfl (keep_cons rfl (keep_cons rfl keep_nil))) (lkeep_cons rfl lkeep_nil) (keep_cons rfl keep_nil) rfl ?_ | refine g_keep [1, 5, 6] [2] [2] rfl rfl rfl rfl ?_
          first | exact g_round _ (by omega) ⟨k + 1, _, by omega, rfl, rfl, rfl, rfl, by rw [filter_snoc hx, if_pos (by simp_all [othR]), List.map_append, List.map_append]; exact hown45⟩ | exact g_round _ (by omega) ⟨k + 1, _, by omega, rfl, rfl, rfl, rfl, by rw [filter_snoc hx, if_neg (by simp_all [othR]), List.append_nil]; exact hown⟩
        · try simp only [decide_eq_true_eq, decide_eq_false_iff_not, Bool.not_eq_true', Bool.not_eq_false', Bool.not_eq_eq_eq_not, Bool.not_true, Bool.not_false, Bool.and_eq_true, Bool.or_eq_true, Bool.or_eq_false_iff, beq_iff_eq, beq_eq_false_iff_ne, ne_eq, Int.not_lt, Int.not_le, Decidable.not_not] at hc36
          refine g_skip ?_
          refine g_block_normal ?_
          refine g_next hK6 ?_
          refine g_region ?_
          refine g_step rfl (s_val (v_move rfl) rfl rfl ?_)
          refine g_step rfl (s_val (v_add rfl rfl (by omega)) rfl rfl ?_)
          refine g_step rfl (s_val (v_assign rfl) rfl rfl ?_)
          refine g_nil ?_
          first | refine g_keep [1, 5, 6] [2] [2] (keep_cons rfl (keep_cons rfl (keep_cons rfl keep_nil))) (lkeep_cons rfl lkeep_nil) (keep_cons rfl keep_nil) rfl ?_ | refine g_keep [1, 5, 6] [2] [2] rfl rfl rfl rfl ?_
          first | exact g_round _ (by omega) ⟨k + 1, _, by omega, rfl, rfl, rfl, rfl, by rw [filter_snoc hx, if_pos (by simp_all [othR]), List.map_append, List.map_append]; exact hown45⟩ | exact g_round _ (by omega) ⟨k + 1, _, by omega, rfl, rfl, rfl, rfl, by rw [filter_snoc hx, if_neg (by simp_all [othR]), List.append_nil]; exact hown⟩
    · try simp only [decide_eq_true_eq, decide_eq_false_iff_not, Bool.not_eq_true', Bool.not_eq_false', Bool.not_eq_eq_eq_not, Bool.not_true, Bool.not_false, Bool.and_eq_true, Bool.or_eq_true, Bool.or_eq_false_iff, beq_iff_eq, beq_eq_false_iff_ne, ne_eq, Int.not_lt, Int.not_le, Decidable.not_not] at hg23
      refine m_take_no (j := 9) (t := 23) 10 rfl rfl rfl rfl rfl rfl (by kernel_rfl) (by kernel_rfl) (by kernel_rfl) (fun _ _ _ _ h => h) rfl rfl ?_
      refine m_take_no (j := 9) (t := 23) 11 rfl rfl rfl rfl rfl rfl (by kernel_rfl) (by kernel_rfl) (by kernel_rfl) (fun _ _ _ _ h => h) rfl rfl ?_
      refine m_take_no (j := 9) (t := 23) 12 rfl rfl rfl rfl rfl rfl (by kernel_rfl) (by kernel_rfl) (by kernel_rfl) (fun _ _ _ _ h => h) rfl rfl ?_
      refine m_take_und (j := 12) (t := 26) 13 rfl rfl rfl rfl rfl (by kernel_rfl) (by kernel_rfl) (by kernel_rfl) (fun _ _ _ _ h => h) rfl rfl ?_
      refine m_take_und (j := 12) (t := 26) 14 rfl rfl rfl rfl rfl (by kernel_rfl) (by kernel_rfl) (by kernel_rfl) (fun _ _ _ _ h => h) rfl rfl ?_
      refine m_take_und (j := 12) (t := 26) 15 rfl rfl rfl rfl rfl (by kernel_rfl) (by kernel_rfl) (by kernel_rfl) (fun _ _ _ _ h => h) rfl rfl ?_
      refine m_take_und (j := 12) (t := 26) 16 rfl rfl rfl rfl rfl (by kernel_rfl) (by kernel_rfl) (by kernel_rfl) (fun _ _ _ _ h => h) rfl rfl ?_
      refine m_take_und (j := 12) (t := 26) 17 rfl rfl rfl rfl rfl (by kernel_rfl) (by kernel_rfl) (by kernel_rfl) (fun _ _ _ _ h => h) rfl rfl ?_
      refine m_take_und (j := 12) (t := 26) 18 rfl rfl rfl rfl rfl (by kernel_rfl) (by kernel_rfl) (by kernel_rfl) (fun _ _ _ _ h => h) rfl rfl ?_
      refine m_take_und (j := 12) (t := 26) 19 rfl rfl rfl rfl rfl (by kernel_rfl) (by kernel_rfl) (by kernel_rfl) (fun _ _ _ _ h => h) rfl rfl ?_
      refine m_take_und (j := 12) (t := 26) 20 rfl rfl rfl rfl rfl (by kernel_rfl) (by kernel_rfl) (by kernel_rfl) (fun _ _ _ _ h => h) rfl rfl ?_
      refine m_take_no (j := 9) (t := 23) 21 rfl rfl rfl rfl rfl rfl (by kernel_rfl) (by kernel_rfl) (by kernel_rfl) (fun _ _ _ _ h => h) rfl rfl ?_
      refine m_take 22 false rfl rfl (by kernel_rfl) (by kernel_rfl) (by kernel_rfl) (fun _ _ _ _ h => h) (v_pick_f rfl rfl) rfl rfl ?_
      refine m_done (by kernel_rfl) ?_
      refine g_next hK7 ?_
      first | refine g_keep [1, 5, 6, 36] [2] [2] (keep_cons rfl (keep_cons rfl (keep_cons rfl (keep_cons rfl keep_nil)))) (lkeep_cons rfl lkeep_nil) (keep_cons rfl keep_nil) rfl ?_ | refine g_keep [1, 5, 6, 36] [2] [2] rfl rfl rfl rfl ?_
      refine g_cond rfl (fun h => by cases h) (fun _ => ?_)
      refine g_skip ?_
      refine g_block_normal ?_
      refine g_next hK6 ?_
      refine g_region ?_
      refine g_step rfl (s_val (v_move rfl) rfl rfl ?_)
      refine g_step rfl (s_val (v_add rfl rfl (by omega)) rfl rfl ?_)
      refine g_step rfl (s_val (v_assign rfl) rfl rfl ?_)
      refine g_nil ?_
      first | refine g_keep [1, 5, 6] [2] [2] (keep_cons rfl (keep_cons rfl (keep_cons rfl keep_nil))) (lkeep_cons rfl lkeep_nil) (keep_cons rfl keep_nil) rfl ?_ | refine g_keep [1, 5, 6] [2] [2] rfl rfl rfl rfl ?_
      first | exact g_round _ (by omega) ⟨k + 1, _, by omega, rfl, rfl, rfl, rfl, by rw [filter_snoc hx, if_pos (by simp_all [othR]), List.map_append, List.map_append]; exact hown45⟩ | exact g_round _ (by omega) ⟨k + 1, _, by omega, rfl, rfl, rfl, rfl, by rw [filter_snoc hx, if_neg (by simp_all [othR]), List.append_nil]; exact hown⟩
  · try simp only [decide_eq_true_eq, decide_eq_false_iff_not, Bool.not_eq_true', Bool.not_eq_false', Bool.not_eq_eq_eq_not, Bool.not_true, Bool.not_false, Bool.and_eq_true, Bool.or_eq_true, Bool.or_eq_false_iff, beq_iff_eq, beq_eq_false_iff_ne, ne_eq, Int.not_lt, Int.not_le, Decidable.not_not] at hc11
    obtain rfl : k = l.length := by omega
    rw [List.take_length] at hown
    obtain ⟨e, he1, he2, he3⟩ := hown.effs
    refine g_exit ?_
    refine g_then_exit ?_
    refine g_then_exit ?_
    refine g_block_same ?_
    refine g_next hK2 ?_
    refine g_seq (fun K8 hK8 => ?_)
    refine g_region ?_
    refine g_step rfl (s_val (v_move rfl) rfl rfl ?_)
    refine g_step rfl (s_val (v_assign rfl) rfl rfl ?_)
    refine g_nil ?_
    refine g_next hK8 ?_
    refine g_ret ?_
    refine g_end1 (.inl rfl) Try.results37 (.tmp rfl) e (ASub.refl _) (by rw [he3]; exact AHeap.sub_refl _) (fun q hq => .inr (he2 q hq)) he1

theorem others25_ok (me room s : Int) (l : List Rc) (G : AHeap) (hl : l.length ≤ 1000) : PCalls Try.prog 37 [mdl me room l, .int .i64 s] G (fun r => r = .imm ((othT me l s).map (.int .i64))) := LCalls.freeze (others25O me room s l G hl)
theorem othersO (p r : Nat) (me room : Int) (l : List Rc) (ss : List Int) (vs : AV) (G : AHeap) (hT : Tb G p r me room l) (hl : l.length ≤ 1000) (hs : ∀ x ∈ l, Small x.bag) (hvs : vs.view G = some (ss.map (.int .i64))) (hls : ss.length ≤ 1000) : LCalls Try.prog 36 [.box p 0, vs] G noD (fun n r effs => OwnR n 1 r ((othQ me l ss).map (.int .i64)) effs) := by
  refine LCalls.intro 44 fi36 rfl Try.ntmps36 rfl (fun _ h => h.elim) (fun H hH w0 hw0 => ?_)
  have hT1 := hT.mono hH
  have hvs1 := view_sub hH hvs
  refine g_seq (fun K0 hK0 => ?_)
  refine g_region ?_
  refine g_step rfl (s_val (v_assign rfl) rfl rfl ?_)
  refine g_nil ?_
  refine g_next hK0 ?_
  refine g_seq (fun K1 hK1 => ?_)
  refine g_seq (fun K2 hK2 => ?_)
  refine g_region ?_
  refine g_step rfl (s_val (v_move rfl) rfl rfl ?_)
  refine g_step rfl (s_val (by first | exact v_ptr_eql_nil ty48 rfl rfl rfl | exact v_nil_eql_nil ty48 rfl rfl | exact v_ptrO_eql ty48 rfl rfl) rfl rfl ?_)
  refine g_nil ?_
  refine g_next hK2 ?_
  refine g_cond rfl (fun hc9 => ?_) (fun hc9 => ?_)
  · exfalso; (try simp only [decide_eq_true_eq, decide_eq_false_iff_not, Bool.not_eq_true', Bool.not_eq_false', Bool.not_eq_eq_eq_not, Bool.not_true, Bool.not_false, Bool.and_eq_true, Bool.or_eq_true, Bool.or_eq_false_iff, beq_iff_eq, beq_eq_false_iff_ne, ne_eq, Int.not_lt, Int.not_le, Decidable.not_not] at hc9); simp at hc9
  · try simp only [decide_eq_true_eq, decide_eq_false_iff_not, Bool.not_eq_true', Bool.not_eq_false', Bool.not_eq_eq_eq_not, Bool.not_true, Bool.not_false, Bool.and_eq_true, Bool.or_eq_true, Bool.or_eq_false_iff, beq_iff_eq, beq_eq_false_iff_ne, ne_eq, Int.not_lt, Int.not_le, Decidable.not_not] at hc9
    refine g_skip ?_
    refine g_next hK1 ?_
    refine g_seq (fun K3 hK3 => ?_)
    refine g_region ?_
    refine g_step rfl (s_val (v_assign rfl) rfl rfl ?_)
    refine g_nil ?_
    refine g_next hK3 ?_
    refine g_seq (fun K4 hK4 => ?_)
    refine g_seq (fun K5 hK5 => ?_)
    refine g_region ?_
    refine g_step rfl (s_val (v_move rfl) rfl rfl ?_)
    refine g_step rfl (s_val (v_nilCheck rfl rfl) rfl rfl ?_)
    refine g_step rfl (s_val (by first | exact v_fieldAddr ty110 fo110_2 ty22 rfl | exact v_fieldAddr_box ty110 fo110_2 ty22 rfl) rfl rfl ?_)
    refine g_step rfl (s_val (by first | exact v_load ty22 rfl rfl (by first | rfl | assumption) (by first | assumption | exact map_get (by assumption) | rfl) rfl | exact v_load_box ty22 rfl rfl hT1.tp (by rfl)) rfl rfl ?_)
    refine g_step rfl (s_val (v_len ty22 rfl hT1.view (by rw [List.length_map])) rfl rfl ?_)
    refine g_step rfl (s_val (v_move rfl) rfl rfl ?_)
    refine g_nil ?_
    refine g_next hK5 ?_
    refine g_block ?_
    first | refine g_keep [0, 1, 5, 13, 14, 15] [] [] (keep_cons rfl (keep_cons rfl (keep_cons rfl (keep_cons rfl (keep_cons rfl (keep_cons rfl keep_nil)))))) lkeep_nil keep_nil rfl ?_ | refine g_keep [0, 1, 5, 13, 14, 15] [] [] rfl rfl rfl rfl ?_
    refine g_loop (fun n env L B G => ∃ (k : Nat) (av : AV), k ≤ l.length ∧ n = l.length - k ∧ env = [(0, .box p 0), (1, vs), (5, av), (13, (.own r 7 0 l.length)), (14, .int .i64 (l.length : Int)), (15, .int .i64 (k : Int))] ∧ L = [] ∧ B = [] ∧ Own w0.heap.size 1 H av ((((l.take k).filter (othP me ss)).map (·.id)).map (.int .i64)) G) (l.length) ⟨0, .nil0, Nat.zero_le _, rfl, rfl, rfl, rfl, Own.nil ..⟩ (fun n env L B G hI => ?_)
    obtain ⟨k, av, hk, rfl, rfl, rfl, rfl, hown⟩ := hI
    have hT2 := hT1.mono hown.sub
    have hvs2 : vs.view G = some (ss.map (.int .i64)) := view_sub hown.sub hvs1
    refine g_seq (fun K6 hK6 => ?_)
    refine g_region ?_
    refine g_step rfl (s_val (v_lss rfl rfl) rfl rfl ?_)
    refine g_nil ?_
    refine g_next hK6 ?_
    refine g_seq (fun K7 hK7 => ?_)
    refine g_cond rfl (fun hc16 => ?_) (fun hc16 => ?_)
    · try simp only [decide_eq_true_eq, decide_eq_false_iff_not, Bool.not_eq_true', Bool.not_eq_false', Bool.not_eq_eq_eq_not, Bool.not_true, Bool.not_false, Bool.and_eq_true, Bool.or_eq_true, Bool.or_eq_false_iff, beq_iff_eq, beq_eq_false_iff_ne, ne_eq, Int.not_lt, Int.not_le, Decidable.not_not] at hc16
      obtain ⟨x, hx⟩ := get_some (l := l) (k := k) (by omega)
      have hol := oth_len2 (p := (othP me ss)) (l := l) (k := k)
      refine g_skip ?_
      refine g_next hK7 ?_
      refine g_seq (fun K8 hK8 => ?_)
      refine g_block ?_
      refine g_seq (fun K9 hK9 => ?_)
      refine g_region ?_
      refine g_step rfl (s_val (v_indexAddr ty22 ty46 rfl rfl hT2.view (by first | rfl | exact (rfl : (0 : Int) = ((0 : Nat) : Int)) | exact (Int.toNat_of_nonneg (by omega)).symm) (map_get hx) rfl) rfl rfl ?_)
      refine g_step rfl (s_val (by first | exact v_load_elt ty46 rfl rfl hT2.view (map_get hx) rfl rfl | exact v_load_box_all ty46 rfl rfl (by assumption) rfl rfl | exact v_load_part (cs := [_, _, _, _, _, _, _]) ty46 rfl rfl hT2.view (map_get hx) rfl rfl rfl | exact v_load_box_part (cs := [_, _, _, _, _, _, _]) ty46 rfl rfl (by assumption) rfl rfl rfl) rfl rfl ?_)
      refine g_step rfl (s_alloc (av := (.agg [(.int .i64 0), (.int .i64 0), (.int .i64 0), (.int .i64 0), (.int .i64 0), (.bool false), .nil0])) ty46 rfl rfl rfl rfl ?_)
      refine g_step rfl (s_store_all ty46 rfl rfl rfl rfl rfl rfl ?_)
      refine g_nil ?_
      refine g_next hK9 ?_
      refine g_seq (fun K10 hK10 => ?_)
      refine g_draw (n := 18) (fun j => !([] : List Nat).contains j) rfl rfl ?_
      refine m_takel 0 rfl rfl (by kernel_rfl) (by kernel_rfl) (by kernel_rfl) (fun _ _ _ _ h => h) (vl_fieldAddr ty46 fo46_0 ty3 rfl) rfl rfl ?_
      refine m_take 1 true rfl rfl (by kernel_rfl) (by kernel_rfl) (by kernel_rfl) (fun _ _ _ _ h => h) (v_loadl ty3 rfl rfl rfl rfl) rfl rfl ?_
      refine m_take 2 false rfl rfl (by kernel_rfl) (by kernel_rfl) (by kernel_rfl) (fun _ _ _ _ h => h) (v_move rfl) rfl rfl ?_
      refine m_take 3 false rfl rfl (by kernel_rfl) (by kernel_rfl) (by kernel_rfl) (fun _ _ _ _ h => h) (v_nilCheck rfl rfl) rfl rfl ?_
      refine m_take 4 false rfl rfl (by kernel_rfl) (by kernel_rfl) (by kernel_rfl) (fun _ _ _ _ h => h) (by first | exact v_fieldAddr ty110 fo110_0 ty3 rfl | exact v_fieldAddr_box ty110 fo110_0 ty3 rfl) rfl rfl ?_
      refine m_take 5 true rfl rfl (by kernel_rfl) (by kernel_rfl) (by kernel_rfl) (fun _ _ _ _ h => h) (by first | exact v_load ty3 rfl rfl (by first | rfl | assumption) (by first | assumption | exact map_get (by assumption) | rfl) rfl | exact v_load_box ty3 rfl rfl hT2.tp (by rfl)) rfl rfl ?_
      refine m_take 6 false rfl rfl (by kernel_rfl) (by kernel_rfl) (by kernel_rfl) (fun _ _ _ _ h => h) (v_neq rfl rfl) rfl rfl ?_
      refine m_take 7 false rfl rfl (by kernel_rfl) (by kernel_rfl) (by kernel_rfl) (fun _ _ _ _ h => h) (v_move rfl) rfl rfl ?_
      refine m_split 26 rfl (fun hg26 => ?_) (fun hg26 => ?_)
      · try simp only [decide_eq_true_eq, decide_eq_false_iff_not, Bool.not_eq_true', Bool.not_eq_false', Bool.not_eq_eq_eq_not, Bool.not_true, Bool.not_false, Bool.and_eq_true, Bool.or_eq_true, Bool.or_eq_false_iff, beq_iff_eq, beq_eq_false_iff_ne, ne_eq, Int.not_lt, Int.not_le, Decidable.not_not] at hg26
        refine m_take_yes (j := 7) (t := 26) 8 false rfl rfl rfl rfl rfl (by kernel_rfl) (by kernel_rfl) (by kernel_rfl) (fun _ _ _ _ h => h) (v_move rfl) rfl rfl ?_
        refine m_take_yes (j := 7) (t := 26) 9 false rfl rfl rfl rfl rfl (by kernel_rfl) (by kernel_rfl) (by kernel_rfl) (fun _ _ _ _ h => h) (v_len ty71 rfl hvs2 (by rw [List.length_map])) rfl rfl ?_
        refine m_take_yes (j := 7) (t := 26) 10 false rfl rfl rfl rfl rfl (by kernel_rfl) (by kernel_rfl) (by kernel_rfl) (fun _ _ _ _ h => h) (v_eql rfl rfl) rfl rfl ?_
        refine m_take_yes (j := 7) (t := 26) 11 false rfl rfl rfl rfl rfl (by kernel_rfl) (by kernel_rfl) (by kernel_rfl) (fun _ _ _ _ h => h) (v_move rfl) rfl rfl ?_
        refine m_split 30 rfl (fun hg30 => ?_) (fun hg30 => ?_)
        · try simp only [decide_eq_true_eq, decide_eq_false_iff_not, Bool.not_eq_true', Bool.not_eq_false', Bool.not_eq_eq_eq_not, Bool.not_true, Bool.not_false, Bool.and_eq_true, Bool.or_eq_true, Bool.or_eq_false_iff, beq_iff_eq, beq_eq_false_iff_ne, ne_eq, Int.not_lt, Int.not_le, Decidable.not_not] at hg30
          refine m_take_no (j := 11) (t := 30) 12 rfl rfl rfl rfl rfl rfl (by kernel_rfl) (by kernel_rfl) (by kernel_rfl) (fun _ _ _ _ h => h) rfl rfl ?_
          refine m_take_no (j := 11) (t := 30) 13 rfl rfl rfl rfl rfl rfl (by kernel_rfl) (by kernel_rfl) (by kernel_rfl) (fun _ _ _ _ h => h) rfl rfl ?_
          refine m_take_no (j := 11) (t := 30) 14 rfl rfl rfl rfl rfl rfl (by kernel_rfl) (by kernel_rfl) (by kernel_rfl) (fun _ _ _ _ h => h) rfl rfl ?_
          refine m_take_no (j := 11) (t := 30) 15 rfl rfl rfl rfl rfl rfl (by kernel_rfl) (by kernel_rfl) (by kernel_rfl) (fun _ _ _ _ h => h) rfl rfl ?_
          refine m_take_yes (j := 7) (t := 26) 16 false rfl rfl rfl rfl rfl (by kernel_rfl) (by kernel_rfl) (by kernel_rfl) (fun _ _ _ _ h => h) (v_pick_t rfl rfl) rfl rfl ?_
          refine m_take 17 false rfl rfl (by kernel_rfl) (by kernel_rfl) (by kernel_rfl) (fun _ _ _ _ h => h) (v_pick_t rfl rfl) rfl rfl ?_
          refine m_done (by kernel_rfl) ?_
          refine g_next hK10 ?_
          first | refine g_keep [0, 1, 5, 13, 14, 15, 36] [7] [7] (keep_cons rfl (keep_cons rfl (keep_cons rfl (keep_cons rfl (keep_cons rfl (keep_cons rfl (keep_cons rfl keep_nil))))))) (lkeep_cons rfl lkeep_nil) (keep_cons rfl keep_nil) rfl ?_ | refine g_keep [0, 1, 5, 13, 14, 15, 36] [7] [7] rfl rfl rfl rfl ?_
          refine g_cond rfl (fun _ => ?_) (fun h => by cases h)
          refine g_region ?_
          refine g_step rfl (s_val (v_move rfl) rfl rfl ?_)
          refine g_step rfl (s_fieldAddr ty46 fo46_0 ty3 rfl rfl ?_)
          refine g_step rfl (s_val (v_loadl ty3 rfl rfl rfl rfl) rfl rfl ?_)
          refine g_step rfl (s_lit ty71 ty3 rfl rfl rfl rfl rfl rfl rfl ?_)
          refine g_step rfl (s_append (l := ((((l.take k).filter (othP me ss)).map (·.id)).map (.int .i64))) (m := ([x.id].map (.int .i64))) ty71 ty3 rfl rfl hown rfl rfl (by refine Even.map _ ?_ _; intro _; rfl) (by intro x hx; obtain ⟨_, _, rfl⟩ := List.mem_map.1 hx; rfl) rfl (by simp; omega) (by simp; omega) ?_)
          intro av41 G41 hown41
          refine g_step rfl (s_val (v_assign rfl) rfl rfl ?_)
          refine g_nil ?_
          refine g_block_normal ?_
          refine g_next hK8 ?_
          refine g_region ?_
          refine g_step rfl (s_val (v_add rfl rfl (by omega)) rfl rfl ?_)
          refine g_step rfl (s_val (v_move rfl) rfl rfl ?_)
          refine g_nil ?_
          first | refine g_keep [0, 1, 5, 13, 14, 15] [] [] (keep_cons rfl (keep_cons rfl (keep_cons rfl (keep_cons rfl (keep_cons rfl (keep_cons rfl keep_nil)))))) lkeep_nil keep_nil rfl ?_ | refine g_keep [0, 1, 5, 13, 14, 15] [] [] rfl rfl rfl rfl ?_
          first | exact g_round _ (by omega) ⟨k + 1, _, by omega, rfl, rfl, rfl, rfl, by rw [filter_snoc hx, if_pos (by simp_all [othP]), List.map_append, List.map_append]; exact hown41⟩ | exact g_round _ (by omega) ⟨k + 1, _, by omega, rfl, rfl, rfl, rfl, by rw [filter_snoc hx, if_neg (by simp_all [othP]), List.append_nil]; exact hown⟩
        · try simp only [decide_eq_true_eq, decide_eq_false_iff_not, Bool.not_eq_true', Bool.not_eq_false', Bool.not_eq_eq_eq_not, Bool.not_true, Bool.not_false, Bool.and_eq_true, Bool.or_eq_true, Bool.or_eq_false_iff, beq_iff_eq, beq_eq_false_iff_ne, ne_eq, Int.not_lt, Int.not_le, Decidable.not_not] at hg30
          refine m_take_yes (j := 11) (t := 30) 12 false rfl rfl rfl rfl rfl (by kernel_rfl) (by kernel_rfl) (by kernel_rfl) (fun _ _ _ _ h => h) (v_move rfl) rfl rfl ?_
          refine m_takel_yes (j := 11) (t := 30) 13 rfl rfl rfl rfl rfl (by kernel_rfl) (by kernel_rfl) (by kernel_rfl) (fun _ _ _ _ h => h) (vl_fieldAddr ty46 fo46_2 ty3 rfl) rfl rfl ?_
          refine m_take_yes (j := 11) (t := 30) 14 true rfl rfl rfl rfl rfl (by kernel_rfl) (by kernel_rfl) (by kernel_rfl) (fun _ _ _ _ h => h) (v_loadl ty3 rfl rfl rfl rfl) rfl rfl ?_
          refine m_one_yes (j := 11) (t := 30) 15 (by kernel_rfl) rfl rfl rfl rfl rfl ?_
          refine sm_callp rfl rfl rfl (contains_ok ss x.st _ vs hvs2 (by omega)) ?_
          rintro _ rfl
          refine m_take_yes (j := 7) (t := 26) 16 false rfl rfl rfl rfl rfl (by kernel_rfl) (by kernel_rfl) (by kernel_rfl) (fun _ _ _ _ h => h) (v_pick_f rfl rfl) rfl rfl ?_
          refine m_take 17 false rfl rfl (by kernel_rfl) (by kernel_rfl) (by kernel_rfl) (fun _ _ _ _ h => h) (v_pick_t rfl rfl) rfl rfl ?_
          refine m_done (by kernel_rfl) ?_
          refine g_next hK10 ?_
          first | refine g_keep [0, 1, 5, 13, 14, 15, 36] [7] [7] (keep_cons rfl (keep_cons rfl (keep_cons rfl (keep_cons rfl (keep_cons rfl (keep_cons rfl (keep_cons rfl keep_nil))))))) (lkeep_cons rfl lkeep_nil) (keep_cons rfl keep_nil) rfl ?_ | refine g_keep [0, 1, 5, 13, 14, 15, 36] [7] [7] rfl rfl rfl rfl ?_
          refine g_cond rfl (fun hc36 => ?_) (fun hc36 => ?_)
          · try simp only [decide_eq_true_eq, decide_eq_false_iff_not, Bool.not_eq_true', Bool.not_eq_false', Bool.not_eq_eq_eq_not, Bool.not_true, Bool.not_false, Bool.and_eq_true, Bool.or_eq_true, Bool.or_eq_false_iff, beq_iff_eq, beq_eq_false_iff_ne, ne_eq, Int.not_lt, Int.not_le, Decidable.not_not] at hc36
            refine g_region ?_
            refine g_step rfl (s_val (v_move rfl) rfl rfl ?_)
            refine g_step rfl (s_fieldAddr ty46 fo46_0 ty3 rfl rfl ?_)
            refine g_step rfl (s_val (v_loadl ty3 rfl rfl rfl rfl) rfl rfl ?_)
            refine g_step rfl (s_lit ty71 ty3 rfl rfl rfl rfl rfl rfl rfl ?_)
            refine g_step rfl (s_append (l := ((((l.take k).filter (othP me ss)).map (·.id)).map (.int .i64))) (m := ([x.id].map (.int .i64))) ty71 ty3 rfl rfl hown rfl rfl (by refine Even.map _ ?_ _; intro _; rfl) (by intro x hx; obtain ⟨_, _, rfl⟩ := List.mem_map.1 hx; rfl) rfl (by simp; omega) (by simp; omega) ?_)
            intro av41 G41 hown41
            refine g_step rfl (s_val (v_assign rfl) rfl rfl ?_)
            refine g_nil ?_
            refine g_block_normal ?_
            refine g_next hK8 ?_
            refine g_region ?_
            refine g_step rfl (s_val (v_add rfl rfl (by omega)) rfl rfl ?_)
            refine g_step rfl (s_val (v_move rfl) rfl rfl ?_)
            refine g_nil ?_
            first | refine g_keep [0, 1, 5, 13, 14, 15] [] [] (keep_cons rfl (keep_cons rfl (keep_cons rfl (keep_cons rfl (keep_cons rfl (keep_cons rfl keep_nil)))))) lkeep_nil keep_nil rfl ?_ | refine g_keep [0, 1, 5, 13, 14, 15] [] [] rfl rfl rfl rfl ?_
            first | exact g_round _ (by omega) ⟨k + 1, _, by omega, rfl, rfl, rfl, rfl, by rw [filter_snoc hx, if_pos (by simp_all [othP]), List.map_append, List.map_append]; exact hown41⟩ | exact g_round _ (by omega) ⟨k + 1, _, by omega, rfl, rfl, rfl, rfl, by rw [filter_snoc hx, if_neg (by simp_all [othP]), List.append_nil]; exact hown⟩
          · try simp only [decide_eq_true_eq, decide_eq_false_iff_not, Bool.not_eq_true', Bool.not_eq_false', Bool.not_eq_eq_eq_not, Bool.not_true, Bool.not_false, Bool.and_eq_true, Bool.or_eq_true, Bool.or_eq_false_iff, beq_iff_eq, beq_eq_false_iff_ne, ne_eq, Int.not_lt, Int.not_le, Decidable.not_not] at hc36
            refine g_skip ?_
            refine g_block_normal ?_
            refine g_next hK8 ?_
            refine g_region ?_
            refine g_step rfl (s_val (v_add rfl rfl (by omega)) rfl rfl ?_)
            refine g_step rfl (s_val (v_move rfl) rfl rfl ?_)
            refine g_nil ?_
            first | refine g_keep [0, 1, 5, 13, 14, 15] [] [] (keep_cons rfl (keep_cons rfl (keep_cons rfl (keep_cons rfl (keep_cons rfl (keep_cons rfl keep_nil)))))) lkeep_nil keep_nil rfl ?_ | refine g_keep [0, 1, 5, 13, 14, 15] [] [] rfl rfl rfl rfl ?_
            first | exact g_round _ (by omega) ⟨k + 1, _, by omega, rfl, rfl, rfl, rfl, by rw [filter_snoc hx, if_pos (by simp_all [othP]), List.map_append, List.map_append]; exact hown41⟩ | exact g_round _ (by omega) ⟨k + 1, _, by omega, rfl, rfl, rfl, rfl, by rw [filter_snoc hx, if_neg (by simp_all [othP]), List.append_nil]; exact hown⟩
      · try simp only [decide_eq_true_eq, decide_eq_false_iff_not, Bool.not_eq_true', Bool.not_eq_false', Bool.not_eq_eq_eq_not, Bool.not_true, Bool.not_false, Bool.and_eq_true, Bool.or_eq_true, Bool.or_eq_false_iff, beq_iff_eq, beq_eq_false_iff_ne, ne_eq, Int.not_lt, Int.not_le, Decidable.not_not] at hg26
        refine m_take_no (j := 7) (t := 26) 8 rfl rfl rfl rfl rfl rfl (by kernel_rfl) (by kernel_rfl) (by kernel_rfl) (fun _ _ _ _ h => h) rfl rfl ?_
        refine m_take_no (j := 7) (t := 26) 9 rfl rfl rfl rfl rfl rfl (by kernel_rfl) (by kernel_rfl) (by kernel_rfl) (fun _ _ _ _ h => h) rfl rfl ?_
        refine m_take_no (j := 7) (t := 26) 10 rfl rfl rfl rfl rfl rfl (by kernel_rfl) (by kernel_rfl) (by kernel_rfl) (fun _ _ _ _ h => h) rfl rfl ?_
        refine m_take_no (j := 7) (t := 26) 11 rfl rfl rfl rfl rfl rfl (by kernel_rfl) (by kernel_rfl) (by kernel_rfl) (fun _ _ _ _ h => h) rfl rfl ?_
        refine m_take_und (j := 11) (t := 30) 12 rfl rfl rfl rfl rfl (by kernel_rfl) (by kernel_rfl) (by kernel_rfl) (fun _ _ _ _ h => h) rfl rfl ?_
        refine m_take_und (j := 11) (t := 30) 13 rfl rfl rfl rfl rfl (by kernel_rfl) (by kernel_rfl) (by kernel_rfl) (fun _ _ _ _ h => h) rfl rfl ?_
        refine m_take_und (j := 11) (t := 30) 14 rfl rfl rfl rfl rfl (by kernel_rfl) (by kernel_rfl) (by kernel_rfl) (fun _ _ _ _ h => h) rfl rfl ?_
        refine m_take_und (j := 11) (t := 30) 15 rfl rfl rfl rfl rfl (by kernel_rfl) (by kernel_rfl) (by kernel_rfl) (fun _ _ _ _ h => h) rfl rfl ?_
        refine m_take_no (j := 7) (t := 26) 16 rfl rfl rfl rfl rfl rfl (by kernel_rfl) (by kernel_rfl) (by kernel_rfl) (fun _ _ _ _ h => h) rfl rfl ?_
        refine m_take 17 false rfl rfl (by kernel_rfl) (by kernel_rfl) (by kernel_rfl) (fun _ _ _ _ h => h) (v_pick_f rfl rfl) rfl rfl ?_
        refine m_done (by kernel_rfl) ?_
        refine g_next hK10 ?_
        first | refine g_keep [0, 1, 5, 13, 14, 15, 36] [7] [7] (keep_cons rfl (keep_cons rfl (keep_cons rfl (keep_cons rfl (keep_cons rfl (keep_cons rfl (keep_cons rfl keep_nil))))))) (lkeep_cons rfl lkeep_nil) (keep_cons rfl keep_nil) rfl ?_ | refine g_keep [0, 1, 5, 13, 14, 15, 36] [7] [7] rfl rfl rfl rfl ?_
        refine g_cond rfl (fun h => by cases h) (fun _ => ?_)
        refine g_skip ?_
        refine g_block_normal ?_
        refine g_next hK8 ?_
        refine g_region ?_
        refine g_step rfl (s_val (v_add rfl rfl (by omega)) rfl rfl ?_)
        refine g_step rfl (s_val (v_move rfl) rfl rfl ?_)
        refine g_nil ?_
        first | refine g_keep [0, 1, 5, 13, 14, 15] [] [] (keep_cons rfl (keep_cons rfl (keep_cons rfl (keep_cons rfl (keep_cons rfl (keep_cons rfl keep_nil)))))) lkeep_nil keep_nil rfl ?_ | refine g_keep [0, 1, 5, 13, 14, 15] [] [] rfl rfl rfl rfl ?_
        first | exact g_round _ (by omega) ⟨k + 1, _, by omega, rfl, rfl, rfl, rfl, by rw [filter_snoc hx, if_pos (by simp_all [othP]), List.map_append, List.map_append]; exact hown41⟩ | exact g_round _ (by omega) ⟨k + 1, _, by omega, rfl, rfl, rfl, rfl, by rw [filter_snoc hx, if_neg (by simp_all [othP]), List.append_nil]; exact hown⟩
    · try simp only [decide_eq_true_eq, decide_eq_false_iff_not, Bool.not_eq_true', Bool.not_eq_false', Bool.not_eq_eq_eq_not, Bool.not_true, Bool.not_false, Bool.and_eq_true, Bool.or_eq_true, Bool.or_eq_false_iff, beq_iff_eq, beq_eq_false_iff_ne, ne_eq, Int.not_lt, Int.not_le, Decidable.not_not] at hc16
      obtain rfl : k = l.length := by omega
      rw [List.take_length] at hown
      obtain ⟨e, he1, he2, he3⟩ := hown.effs
      refine g_exit ?_
      refine g_then_exit ?_
      refine g_then_exit ?_
      refine g_block_same ?_
      refine g_next hK4 ?_
      refine g_seq (fun K11 hK11 => ?_)
      refine g_region ?_
      refine g_step rfl (s_val (v_move rfl) rfl rfl ?_)
      refine g_step rfl (s_val (v_assign rfl) rfl rfl ?_)
      refine g_nil ?_
      refine g_next hK11 ?_
      refine g_ret ?_
      refine g_end1 (.inl rfl) Try.results36 (.tmp rfl) e (ASub.refl _) (by rw [he3]; exact AHeap.sub_refl _) (fun q hq => .inr (he2 q hq)) he1

theorem others_ok (p r : Nat) (me room : Int) (l : List Rc) (ss : List Int) (vs : AV) (G : AHeap) (hT : Tb G p r me room l) (hl : l.length ≤ 1000) (hs : ∀ x ∈ l, Small x.bag) (hvs : vs.view G = some (ss.map (.int .i64))) (hls : ss.length ≤ 1000) : PCalls Try.prog 36 [.box p 0, vs] G (fun r => r = .imm ((othQ me l ss).map (.int .i64))) := LCalls.freeze (othersO p r me room l ss vs G hT hl hs hvs hls)
end Go.Proofs.Ytgipbhfblmblcaa

import Derived.Test.YtobigfbgaiglkaaPeersLaws
import Derived.Test.YtobigfbgaiglkaaPNews
import Derived.Test.YtobigfbgaiglkaaSortLay
set_option maxHeartbeats 8000000
set_option linter.unusedSimpArgs false
set_option linter.unusedVariables false
set_option maxRecDepth 100000
namespace Go.Proofs.Ytobigfbgaiglkaa
open Go Go.Proofs.Ytobigfbgaiglkaa.AM
theorem len64z_ok (G : AHeap) : PCalls Try.prog 119 [.int .u64 0] G (fun v => v = .int .i64 0) := by
  refine LCalls.intro 25 fi119 rfl Try.ntmps119 rfl (fun _ h => h.elim) (fun H hH w0 hw0 => ?_)
  refine g_seq (fun K0 hK0 => ?_)
  refine g_region ?_
  refine g_step rfl (s_val (v_assign rfl) rfl rfl ?_)
  refine g_nil ?_
  refine g_next hK0 ?_
  refine g_seq (fun K1 hK1 => ?_)
  refine g_seq (fun K2 hK2 => ?_)
  refine g_region ?_
  refine g_step rfl (s_val (v_move rfl) rfl rfl ?_)
  refine g_step rfl (s_val (v_geq rfl rfl) rfl rfl ?_)
  refine g_nil ?_
  refine g_next hK2 ?_
  refine g_cond rfl (fun hc4 => ?_) (fun hc4 => ?_)
  · exfalso; (try simp only [decide_eq_true_eq, decide_eq_false_iff_not, Bool.not_eq_true', Bool.not_eq_false', Bool.not_eq_eq_eq_not, Bool.not_true, Bool.not_false, Bool.and_eq_true, Bool.or_eq_true, Bool.or_eq_false_iff, beq_iff_eq, beq_eq_false_iff_ne, ne_eq, Int.not_lt, Int.not_le, Decidable.not_not] at hc4); exact absurd hc4 (by decide)
  · try simp only [decide_eq_true_eq, decide_eq_false_iff_not, Bool.not_eq_true', Bool.not_eq_false', Bool.not_eq_eq_eq_not, Bool.not_true, Bool.not_false, Bool.and_eq_true, Bool.or_eq_true, Bool.or_eq_false_iff, beq_iff_eq, beq_eq_false_iff_ne, ne_eq, Int.not_lt, Int.not_le, Decidable.not_not] at hc4
    refine g_skip ?_
    refine g_next hK1 ?_
    refine g_seq (fun K3 hK3 => ?_)
    refine g_seq (fun K4 hK4 => ?_)
    refine g_region ?_
    refine g_step rfl (s_val (v_move rfl) rfl rfl ?_)
    refine g_step rfl (s_val (v_geq rfl rfl) rfl rfl ?_)
    refine g_nil ?_
    refine g_next hK4 ?_
    refine g_cond rfl (fun hc8 => ?_) (fun hc8 => ?_)
    · exfalso; (try simp only [decide_eq_true_eq, decide_eq_false_iff_not, Bool.not_eq_true', Bool.not_eq_false', Bool.not_eq_eq_eq_not, Bool.not_true, Bool.not_false, Bool.and_eq_true, Bool.or_eq_true, Bool.or_eq_false_iff, beq_iff_eq, beq_eq_false_iff_ne, ne_eq, Int.not_lt, Int.not_le, Decidable.not_not] at hc8); exact absurd hc8 (by decide)
    · try simp only [decide_eq_true_eq, decide_eq_false_iff_not, Bool.not_eq_true', Bool.not_eq_false', Bool.not_eq_eq_eq_not, Bool.not_true, Bool.not_false, Bool.and_eq_true, Bool.or_eq_true, Bool.or_eq_false_iff, beq_iff_eq, beq_eq_false_iff_ne, ne_eq, Int.not_lt, Int.not_le, Decidable.not_not] at hc8
      refine g_skip ?_
      refine g_next hK3 ?_
      refine g_seq (fun K5 hK5 => ?_)
      refine g_seq (fun K6 hK6 => ?_)
      refine g_region ?_
      refine g_step rfl (s_val (v_move rfl) rfl rfl ?_)
      refine g_step rfl (s_val (v_geq rfl rfl) rfl rfl ?_)
      refine g_nil ?_
      refine g_next hK6 ?_
      refine g_cond rfl (fun hc14 => ?_) (fun hc14 => ?_)
      · exfalso; (try simp only [decide_eq_true_eq, decide_eq_false_iff_not, Bool.not_eq_true', Bool.not_eq_false', Bool.not_eq_eq_eq_not, Bool.not_true, Bool.not_false, Bool.and_eq_true, Bool.or_eq_true, Bool.or_eq_false_iff, beq_iff_eq, beq_eq_false_iff_ne, ne_eq, Int.not_lt, Int.not_le, Decidable.not_not] at hc14); exact absurd hc14 (by decide)
      · try simp only [decide_eq_true_eq, decide_eq_false_iff_not, Bool.not_eq_true', Bool.not_eq_false', Bool.not_eq_eq_eq_not, Bool.not_true, Bool.not_false, Bool.and_eq_true, Bool.or_eq_true, Bool.or_eq_false_iff, beq_iff_eq, beq_eq_false_iff_ne, ne_eq, Int.not_lt, Int.not_le, Decidable.not_not] at hc14
        refine g_skip ?_
        refine g_next hK5 ?_
        refine g_seq (fun K7 hK7 => ?_)
        refine g_region ?_
        refine g_step rfl (s_val (v_move rfl) rfl rfl ?_)
        refine g_step rfl (s_val (v_move rfl) rfl rfl ?_)
        refine g_step rfl (s_val (v_conv_int (m := 0) ty204 ty5 rfl (by decide)) rfl rfl ?_)
        refine g_step rfl (s_val (v_index_str (i := 0) (b := 0) ty9 rfl rfl (by first | rfl | exact (rfl : (0 : Int) = ((0 : Nat) : Int)) | exact (Int.toNat_of_nonneg (by omega)).symm) rfl) rfl rfl ?_)
        refine g_step rfl (s_val (v_conv_int (m := 0) ty5 ty3 rfl (by decide)) rfl rfl ?_)
        refine g_step rfl (s_val (v_add rfl rfl (by omega)) rfl rfl ?_)
        refine g_step rfl (s_val (v_assign rfl) rfl rfl ?_)
        refine g_nil ?_
        refine g_next hK7 ?_
        refine g_ret ?_
        refine g_end1 (.inl rfl) Try.results119 (.tmp rfl) [] (ASub.refl _) (AHeap.sub_refl _) (fun p hp => by cases hp) ⟨rfl, ?_⟩
        rfl

theorem lenz_ok (G : AHeap) : PCalls Try.prog 91 [.int .u64 0] G (fun v => v = .int .i64 0) := by
  refine LCalls.intro 8 fi91 rfl Try.ntmps91 rfl (fun _ h => h.elim) (fun H hH w0 hw0 => ?_)
  refine g_seq (fun K0 hK0 => ?_)
  refine g_region ?_
  refine g_step rfl (s_val (v_assign rfl) rfl rfl ?_)
  refine g_nil ?_
  refine g_next hK0 ?_
  refine g_seq (fun K1 hK1 => ?_)
  refine g_cond rfl (fun h => by cases h) (fun _ => ?_)
  refine g_skip ?_
  refine g_next hK1 ?_
  refine g_seq (fun K2 hK2 => ?_)
  refine g_region ?_
  refine g_step rfl (s_val (v_move rfl) rfl rfl ?_)
  refine g_step rfl (s_callp rfl rfl rfl (len64z_ok _) ?_)
  rintro _ rfl
  refine g_step rfl (s_val (v_assign rfl) rfl rfl ?_)
  refine g_nil ?_
  refine g_next hK2 ?_
  refine g_ret ?_
  refine g_end1 (.inl rfl) Try.results91 (.tmp rfl) [] (ASub.refl _) (AHeap.sub_refl _) (fun p hp => by cases hp) ⟨rfl, ?_⟩
  rfl

theorem insSortNil_ok (G : AHeap) : PCalls Try.prog 110 [.nil0, .int .i64 0, .int .i64 0] G (fun v => v = .tup []) := by
  refine LCalls.intro 49 fi110 rfl Try.ntmps110 rfl (fun _ h => h.elim) (fun H hH w0 hw0 => ?_)
  refine g_seq (fun K0 hK0 => ?_)
  refine g_region ?_
  refine g_step rfl (s_val (v_move rfl) rfl rfl ?_)
  refine g_step rfl (s_val (v_add rfl rfl (by omega)) rfl rfl ?_)
  refine g_step rfl (s_val (v_assign rfl) rfl rfl ?_)
  refine g_nil ?_
  refine g_next hK0 ?_
  refine g_block ?_
  first | refine g_keep [0, 1, 2, 6] [] [] (keep_cons rfl (keep_cons rfl (keep_cons rfl (keep_cons rfl keep_nil)))) lkeep_nil keep_nil rfl ?_ | refine g_keep [0, 1, 2, 6] [] [] rfl rfl rfl rfl ?_
  refine g_loop (fun n env L B G => env = [(0, .nil0), (1, .int .i64 0), (2, .int .i64 0), (6, .int .i64 (0 + 1))] ∧ L = [] ∧ B = [] ∧ H = G) 0 ⟨rfl, rfl, rfl, rfl⟩ (fun n env L B G hI => ?_)
  obtain ⟨rfl, rfl, rfl, rfl⟩ := hI
  refine g_seq (fun K1 hK1 => ?_)
  refine g_seq (fun K2 hK2 => ?_)
  refine g_region ?_
  refine g_step rfl (s_val (v_move rfl) rfl rfl ?_)
  refine g_step rfl (s_val (v_move rfl) rfl rfl ?_)
  refine g_step rfl (s_val (v_lss rfl rfl) rfl rfl ?_)
  refine g_nil ?_
  refine g_next hK2 ?_
  refine g_cond rfl (fun hc12 => ?_) (fun hc12 => ?_)
  · exfalso; (try simp only [decide_eq_true_eq, decide_eq_false_iff_not, Bool.not_eq_true', Bool.not_eq_false', Bool.not_eq_eq_eq_not, Bool.not_true, Bool.not_false, Bool.and_eq_true, Bool.or_eq_true, Bool.or_eq_false_iff, beq_iff_eq, beq_eq_false_iff_ne, ne_eq, Int.not_lt, Int.not_le, Decidable.not_not] at hc12); exact absurd hc12 (by decide)
  · try simp only [decide_eq_true_eq, decide_eq_false_iff_not, Bool.not_eq_true', Bool.not_eq_false', Bool.not_eq_eq_eq_not, Bool.not_true, Bool.not_false, Bool.and_eq_true, Bool.or_eq_true, Bool.or_eq_false_iff, beq_iff_eq, beq_eq_false_iff_ne, ne_eq, Int.not_lt, Int.not_le, Decidable.not_not] at hc12
    refine g_exit ?_
    refine g_then_exit ?_
    refine g_then_exit ?_
    refine g_block_same ?_
    refine g_end0 (.inr rfl) Try.results110  []  (AHeap.sub_refl _) (fun p hp => by cases hp) ⟨rfl, ?_⟩
    rfl

theorem pdqNil_ok (G : AHeap) : PCalls Try.prog 90 [.nil0, .int .i64 0, .int .i64 0, .int .i64 0] G (fun v => v = .tup []) := by
  refine LCalls.intro 134 fi90 rfl Try.ntmps90 rfl (fun _ h => h.elim) (fun H hH w0 hw0 => ?_)
  refine g_seq (fun K0 hK0 => ?_)
  refine g_region ?_
  refine g_step rfl (s_val (v_assign rfl) rfl rfl ?_)
  refine g_nil ?_
  refine g_next hK0 ?_
  refine g_seq (fun K1 hK1 => ?_)
  refine g_region ?_
  refine g_step rfl (s_val (v_assign rfl) rfl rfl ?_)
  refine g_nil ?_
  refine g_next hK1 ?_
  refine g_block ?_
  first | refine g_keep [0, 1, 2, 3, 8, 9] [] [] (keep_cons rfl (keep_cons rfl (keep_cons rfl (keep_cons rfl (keep_cons rfl (keep_cons rfl keep_nil)))))) lkeep_nil keep_nil rfl ?_ | refine g_keep [0, 1, 2, 3, 8, 9] [] [] rfl rfl rfl rfl ?_
  refine g_loop (fun n env L B G => env = [(0, .nil0), (1, .int .i64 0), (2, .int .i64 0), (3, .int .i64 0), (8, .bool true), (9, .bool true)] ∧ L = [] ∧ B = [] ∧ H = G) 0 ⟨rfl, rfl, rfl, rfl⟩ (fun n env L B G hI => ?_)
  obtain ⟨rfl, rfl, rfl, rfl⟩ := hI
  refine g_block ?_
  refine g_seq (fun K2 hK2 => ?_)
  refine g_region ?_
  refine g_step rfl (s_val (v_move rfl) rfl rfl ?_)
  refine g_step rfl (s_val (v_move rfl) rfl rfl ?_)
  refine g_step rfl (s_val (v_sub_ rfl rfl (by omega)) rfl rfl ?_)
  refine g_step rfl (s_val (v_assign rfl) rfl rfl ?_)
  refine g_nil ?_
  refine g_next hK2 ?_
  refine g_seq (fun K3 hK3 => ?_)
  refine g_seq (fun K4 hK4 => ?_)
  refine g_region ?_
  refine g_step rfl (s_val (v_move rfl) rfl rfl ?_)
  refine g_step rfl (s_val (v_leq rfl rfl) rfl rfl ?_)
  refine g_nil ?_
  refine g_next hK4 ?_
  refine g_cond rfl (fun hc23 => ?_) (fun hc23 => ?_)
  · try simp only [decide_eq_true_eq, decide_eq_false_iff_not, Bool.not_eq_true', Bool.not_eq_false', Bool.not_eq_eq_eq_not, Bool.not_true, Bool.not_false, Bool.and_eq_true, Bool.or_eq_true, Bool.or_eq_false_iff, beq_iff_eq, beq_eq_false_iff_ne, ne_eq, Int.not_lt, Int.not_le, Decidable.not_not] at hc23
    refine g_seq (fun K5 hK5 => ?_)
    refine g_region ?_
    refine g_step rfl (s_val (v_move rfl) rfl rfl ?_)
    refine g_step rfl (s_val (v_move rfl) rfl rfl ?_)
    refine g_step rfl (s_val (v_move rfl) rfl rfl ?_)
    refine g_step rfl (s_callp rfl rfl rfl (insSortNil_ok _) ?_)
    rintro _ rfl
    refine g_nil ?_
    refine g_next hK5 ?_
    refine g_ret ?_
    refine g_then_ret ?_
    refine g_block_ret ?_
    refine g_then_ret ?_
    refine g_block_ret ?_
    refine g_end0 (.inl rfl) Try.results90  []  (AHeap.sub_refl _) (fun p hp => by cases hp) ⟨rfl, ?_⟩
    rfl
  · exfalso; (try simp only [decide_eq_true_eq, decide_eq_false_iff_not, Bool.not_eq_true', Bool.not_eq_false', Bool.not_eq_eq_eq_not, Bool.not_true, Bool.not_false, Bool.and_eq_true, Bool.or_eq_true, Bool.or_eq_false_iff, beq_iff_eq, beq_eq_false_iff_ne, ne_eq, Int.not_lt, Int.not_le, Decidable.not_not] at hc23); exact absurd hc23 (by decide)

theorem sortNil_ok (G : AHeap) : PCalls Try.prog 57 [.nil0] G (fun v => v = .tup []) := by
  refine LCalls.intro 11 fi57 rfl Try.ntmps57 rfl (fun _ h => h.elim) (fun H hH w0 hw0 => ?_)
  refine g_seq (fun K0 hK0 => ?_)
  refine g_region ?_
  refine g_step rfl (s_val (v_move rfl) rfl rfl ?_)
  refine g_step rfl (s_val (v_len ty41 rfl (by first | rfl | assumption) (by first | exact List.length_map .. | rfl)) rfl rfl ?_)
  refine g_step rfl (s_val (v_assign rfl) rfl rfl ?_)
  refine g_nil ?_
  refine g_next hK0 ?_
  refine g_region ?_
  refine g_step rfl (s_val (v_move rfl) rfl rfl ?_)
  refine g_step rfl (s_val (v_move rfl) rfl rfl ?_)
  refine g_step rfl (s_val (v_move rfl) rfl rfl ?_)
  refine g_step rfl (s_val (v_conv_int (m := _) ty3 ty180 rfl rfl) rfl rfl ?_)
  refine g_step rfl (s_callp rfl rfl rfl (lenz_ok _) ?_)
  rintro _ rfl
  refine g_step rfl (s_callp rfl rfl rfl (pdqNil_ok _) ?_)
  rintro _ rfl
  refine g_nil ?_
  refine g_end0 (.inr rfl) Try.results57  []  (AHeap.sub_refl _) (fun p hp => by cases hp) ⟨rfl, ?_⟩
  rfl

theorem peersAll_ok (p r : Nat) (m : Book) (G : AHeap) (hG : G p = some (.box (.agg [.map r]))) (hR : G r = some (bookRow m)) (hm : m.length ≤ 100000) : PCalls Try.prog 56 [.box p 0] G (fun v => v = .imm ((pkeys m).map (.int .i64))) := by
  refine LCalls.intro 23 fi56 rfl Try.ntmps56 rfl (fun _ h => h.elim) (fun H hH w0 hw0 => ?_)
  have hG := hH _ _ hG
  have hR := hH _ _ hR
  refine g_seq (fun K0 hK0 => ?_)
  refine g_region ?_
  refine g_step rfl (s_val (v_assign rfl) rfl rfl ?_)
  refine g_nil ?_
  refine g_next hK0 ?_
  refine g_seq (fun K1 hK1 => ?_)
  refine g_seq (fun K2 hK2 => ?_)
  refine g_region ?_
  refine g_step rfl (s_val (v_move rfl) rfl rfl ?_)
  refine g_step rfl (s_val (by first | exact v_ptr_eql_nil ty104 rfl rfl rfl | exact v_nil_eql_nil ty104 rfl rfl | exact v_ptrO_eql ty104 rfl rfl) rfl rfl ?_)
  refine g_nil ?_
  refine g_next hK2 ?_
  refine g_cond rfl (fun hc6 => ?_) (fun hc6 => ?_)
  · exfalso; (try simp only [decide_eq_true_eq, decide_eq_false_iff_not, Bool.not_eq_true', Bool.not_eq_false', Bool.not_eq_eq_eq_not, Bool.not_true, Bool.not_false, Bool.and_eq_true, Bool.or_eq_true, Bool.or_eq_false_iff, beq_iff_eq, beq_eq_false_iff_ne, ne_eq, Int.not_lt, Int.not_le, Decidable.not_not] at hc6); simp at hc6
  · try simp only [decide_eq_true_eq, decide_eq_false_iff_not, Bool.not_eq_true', Bool.not_eq_false', Bool.not_eq_eq_eq_not, Bool.not_true, Bool.not_false, Bool.and_eq_true, Bool.or_eq_true, Bool.or_eq_false_iff, beq_iff_eq, beq_eq_false_iff_ne, ne_eq, Int.not_lt, Int.not_le, Decidable.not_not] at hc6
    refine g_skip ?_
    refine g_next hK1 ?_
    refine g_seq (fun K3 hK3 => ?_)
    refine g_region ?_
    refine g_step rfl (s_val (v_assign rfl) rfl rfl ?_)
    refine g_nil ?_
    refine g_next hK3 ?_
    refine g_seq (fun K4 hK4 => ?_)
    refine g_seq (fun K5 hK5 => ?_)
    refine g_region ?_
    refine g_step rfl (s_val (v_move rfl) rfl rfl ?_)
    refine g_step rfl (s_val (v_nilCheck rfl rfl) rfl rfl ?_)
    refine g_step rfl (s_val (by first | exact v_fieldAddr ty177 fo177_0 ty175 rfl | exact v_fieldAddr_box ty177 fo177_0 ty175 rfl) rfl rfl ?_)
    refine g_step rfl (s_val (by first | exact v_load ty175 rfl rfl (by first | rfl | assumption) (by first | assumption | exact map_get (by assumption) | rfl) rfl | exact v_load_box ty175 rfl rfl (by assumption) rfl) rfl rfl ?_)
    refine g_mapb hR (fun bs clk hbl hbc hbp => ?_)
    refine g_step rfl (s_range ty175 rfl rfl (AHeap.get_set _ _ _) (fun bi hbi1 hbi2 => ?_))
    have hbir : bi ≠ r := fun e => by subst e; rw [AHeap.get_set] at hbi1; cases hbi1
    have hbl' : bs.length = m.length := by simpa [mmap] using hbl
    refine g_nil ?_
    refine g_next hK5 ?_
    refine g_block ?_
    first | refine g_keep [3, 11] [] [] (keep_cons rfl (keep_cons rfl keep_nil)) lkeep_nil keep_nil rfl ?_ | refine g_keep [3, 11] [] [] rfl rfl rfl rfl ?_
    refine g_loop (fun n env L B G => ∃ (k : Nat) (J : List Nat) (last : Nat) (ids : List Int) (av : AV), k ≤ m.length ∧ n = m.length - k ∧ env = [(3, av), (11, .box bi 0)] ∧ L = [] ∧ B = [] ∧ Own w0.heap.size 1 ((H.set r (.mapb ((mmap encPe m).map fun p => ((.int .i64 p.1 : AV), p.2)) bs clk)).set bi (.iter r clk (J.map fun j => (bs[j]?).getD 0) last)) av (ids.map (.int .i64)) G ∧ J.length = k ∧ J.Nodup ∧ (∀ j ∈ J, j < m.length) ∧ ids = J.map (atOr m) ∧ clk ≤ last) (m.length) ⟨0, [], clk, [], .nil0, Nat.zero_le _, rfl, rfl, rfl, rfl, ⟨Own.nil .., rfl, List.nodup_nil, (fun j h => by cases h), rfl, Nat.le_refl _⟩⟩ (fun n env L B G hI => ?_)
    obtain ⟨k, J, last, ids, av, hk, rfl, rfl, rfl, rfl, hown, hJl, hJn, hJb, hids, hlast⟩ := hI
    have hGi := hown.sub _ _ (AHeap.get_set _ bi _)
    have hGm := hown.sub r _ (by rw [AHeap.get_set_ne _ _ (Ne.symm hbir), AHeap.get_set])
    refine g_seq (fun K6 hK6 => ?_)
    refine g_region ?_
    refine g_step rfl (s_next rfl rfl hGm hGi hbc hlast (.inr hbi2) (fun hall => ?_) (fun ix hi hb hns => ?_))
    · skip
      skip
      refine g_step rfl (s_val (v_extract rfl rfl) rfl rfl ?_)
      refine g_nil ?_
      refine g_next hK6 ?_
      refine g_seq (fun K7 hK7 => ?_)
      refine g_cond rfl (fun hc13 => ?_) (fun hc13 => ?_)
      · exfalso; (try simp only [decide_eq_true_eq, decide_eq_false_iff_not, Bool.not_eq_true', Bool.not_eq_false', Bool.not_eq_eq_eq_not, Bool.not_true, Bool.not_false, Bool.and_eq_true, Bool.or_eq_true, Bool.or_eq_false_iff, beq_iff_eq, beq_eq_false_iff_ne, ne_eq, Int.not_lt, Int.not_le, Decidable.not_not] at hc13); cases hc13
      · try simp only [decide_eq_true_eq, decide_eq_false_iff_not, Bool.not_eq_true', Bool.not_eq_false', Bool.not_eq_eq_eq_not, Bool.not_true, Bool.not_false, Bool.and_eq_true, Bool.or_eq_true, Bool.or_eq_false_iff, beq_iff_eq, beq_eq_false_iff_ne, ne_eq, Int.not_lt, Int.not_le, Decidable.not_not] at hc13
        refine g_exit ?_
        refine g_then_exit ?_
        refine g_then_exit ?_
        refine g_block_same ?_
        refine g_next hK4 ?_
        refine g_seq (fun K8 hK8 => ?_)
        refine g_region ?_
        have hperm := collected hbl' hbp hJn hJb hall
        rw [← hids] at hperm
        have hsort : (ids.mergeSort fun x y => decide (x ≤ y)) = pkeys m := mergeSort_perm hperm
        have hidl : ids.length ≤ 100000 := by rw [hperm.length_eq, List.length_map]; exact hm
        refine g_unmapb hGm ?_
        have hown3 := own_put (.map ((mmap encPe m).map fun p => ((.int .i64 p.1 : AV), p.2))) hown (show _ = some _ by rw [AHeap.get_set_ne _ _ (Ne.symm hbir), AHeap.get_set])
        have hsubB : H.sub (((H.set r (.mapb ((mmap encPe m).map fun p => ((.int .i64 p.1 : AV), p.2)) bs clk)).set bi (.iter r clk (J.map fun j => (bs[j]?).getD 0) last)).set r (.map ((mmap encPe m).map fun p => ((.int .i64 p.1 : AV), p.2)))) := sub_ranged hR hbi1
        refine g_step rfl (s_val (v_move rfl) rfl rfl ?_)
        rcases hown3 with ⟨e1, e2, e3⟩ | ⟨rr, e1, e2, e3, e4⟩
        · skip
          subst e1
          refine g_step rfl (s_callp rfl rfl rfl (sortNil_ok _) ?_)
          rintro _ rfl
          refine g_nil ?_
          refine g_freezeV (sz := 1) (l := ((pkeys m).map (.int .i64))) (H := H) 3 rfl (.inl ⟨rfl, by rw [← hsort]; have h0 : ids = [] := (by simpa using e2); rw [h0]; simp⟩) (by rw [e3]; exact hsubB) (fun _ _ h' => by cases h') ?_
          refine g_next hK8 ?_
          refine g_seq (fun K9 hK9 => ?_)
          refine g_region ?_
          refine g_step rfl (s_val (v_move rfl) rfl rfl ?_)
          refine g_step rfl (s_val (v_assign rfl) rfl rfl ?_)
          refine g_nil ?_
          refine g_next hK9 ?_
          refine g_ret ?_
          refine g_end1 (.inl rfl) Try.results56 (.tmp rfl) [] (ASub.refl _) (AHeap.sub_refl _) (fun p hp => by cases hp) ⟨rfl, ?_⟩
          rfl
        · skip
          rw [List.length_map] at e3
          subst e3
          rw [e4]
          have hHrr := sub_none hsubB e1
          refine g_step rfl (s_call rfl rfl rfl (sortInts_ok rr ids _ (AHeap.get_set _ _ _) (by omega)) (fun b hb => .inr (by subst hb; exact e2)) ?_)
          rintro n5 _ effs5 hn5 hdom5 ⟨rfl, rfl⟩ hok5
          refine g_nil ?_
          refine g_freezeV (sz := 1) (l := ((pkeys m).map (.int .i64))) (H := H) 3 rfl (.inr ⟨rr, by rw [← hsort]; simp, by rw [← hsort]; exact AHeap.get_set _ _ _⟩) (sub_set_free _ (sub_set_free _ hsubB hHrr) hHrr) (fun _ _ h' => by cases h'; exact hHrr) ?_
          refine g_next hK8 ?_
          refine g_seq (fun K10 hK10 => ?_)
          refine g_region ?_
          refine g_step rfl (s_val (v_move rfl) rfl rfl ?_)
          refine g_step rfl (s_val (v_assign rfl) rfl rfl ?_)
          refine g_nil ?_
          refine g_next hK10 ?_
          refine g_ret ?_
          refine g_end1 (.inl rfl) Try.results56 (.tmp rfl) [] (ASub.refl _) (AHeap.sub_refl _) (fun p hp => by cases hp) ⟨rfl, ?_⟩
          rfl
    · skip
      have hixJ := notin_map hb hns
      have hJn' : (J ++ [ix]).Nodup := List.nodup_append.2 ⟨hJn, by simp, fun a ha b hb' => by simp at hb'; subst hb'; exact fun e => hixJ (e ▸ ha)⟩
      have hil : ix < m.length := by simpa [mmap] using hi
      have hJb' : ∀ j ∈ J ++ [ix], j < m.length := fun j hj => by rcases List.mem_append.1 hj with h | h; exact hJb j h; simp at h; omega
      have hk1 := places_le hJn' hJb'
      have hidk : ids.length = k := by rw [hids, List.length_map, hJl]
      simp only [List.length_append, List.length_singleton, hJl] at hk1
      have hown2 := own_put (.iter r clk ((J.map fun j => (bs[j]?).getD 0) ++ [bs[ix]]) clk) hown (AHeap.get_set _ bi _)
      rw [AHeap.set_set] at hown2
      have hGi2 := hown2.sub _ _ (AHeap.get_set _ bi _)
      have hGm2 := hown2.sub r _ (by rw [AHeap.get_set_ne _ _ (Ne.symm hbir), AHeap.get_set])
      have hse : (J.map fun j => (bs[j]?).getD 0) ++ [bs[ix]] = (J ++ [ix]).map fun j => (bs[j]?).getD 0 := by simp [hb]
      have hat : (((mmap encPe m).map fun p => ((.int .i64 p.1 : AV), p.2))[ix]'hi).1 = .int .i64 (atOr m ix) := by simp [mmap, atOr, hil]
      refine g_step rfl (s_val (v_extract rfl rfl) rfl rfl ?_)
      refine g_nil ?_
      refine g_next hK6 ?_
      refine g_seq (fun K11 hK11 => ?_)
      refine g_cond rfl (fun hc13 => ?_) (fun hc13 => ?_)
      · try simp only [decide_eq_true_eq, decide_eq_false_iff_not, Bool.not_eq_true', Bool.not_eq_false', Bool.not_eq_eq_eq_not, Bool.not_true, Bool.not_false, Bool.and_eq_true, Bool.or_eq_true, Bool.or_eq_false_iff, beq_iff_eq, beq_eq_false_iff_ne, ne_eq, Int.not_lt, Int.not_le, Decidable.not_not] at hc13
        refine g_skip ?_
        refine g_next hK11 ?_
        refine g_block ?_
        refine g_seq (fun K12 hK12 => ?_)
        refine g_region ?_
        refine g_step rfl (s_val (v_entry rfl hGm2 hi hb hGi2) rfl rfl ?_)
        refine g_step rfl (s_val (v_extract rfl (congrArg some hat)) rfl rfl ?_)
        refine g_step rfl (s_val (v_assign rfl) rfl rfl ?_)
        refine g_nil ?_
        refine g_next hK12 ?_
        refine g_region ?_
        refine g_step rfl (s_val (v_move rfl) rfl rfl ?_)
        refine g_step rfl (s_val (v_move rfl) rfl rfl ?_)
        refine g_step rfl (s_lit ty41 ty3 rfl rfl rfl rfl rfl rfl rfl ?_)
        refine g_step rfl (s_append (l := (ids.map (.int .i64))) (m := ([atOr m ix].map (.int .i64))) ty41 ty3 rfl rfl hown2 rfl rfl (by refine Even.map _ ?_ _; intro _; rfl) (by intro x hx; obtain ⟨_, _, rfl⟩ := List.mem_map.1 hx; rfl) rfl (by simp; omega) (by simp; omega) ?_)
        intro av19 G19 h19
        rw [hse] at h19
        refine g_step rfl (s_val (v_assign rfl) rfl rfl ?_)
        refine g_nil ?_
        refine g_block_normal ?_
        first | refine g_keep [3, 11] [] [] (keep_cons rfl (keep_cons rfl keep_nil)) lkeep_nil keep_nil rfl ?_ | refine g_keep [3, 11] [] [] rfl rfl rfl rfl ?_
        exact g_round _ (by omega) ⟨k + 1, J ++ [ix], clk, ids ++ [atOr m ix], av19, by omega, rfl, rfl, rfl, rfl, ⟨by rw [show (ids ++ [atOr m ix]).map (AV.int .i64) = ids.map (.int .i64) ++ [atOr m ix].map (.int .i64) from List.map_append]; exact h19, by simp [hJl], hJn', hJb', by rw [hids, List.map_append]; rfl, Nat.le_refl _⟩⟩
      · exfalso; (try simp only [decide_eq_true_eq, decide_eq_false_iff_not, Bool.not_eq_true', Bool.not_eq_false', Bool.not_eq_eq_eq_not, Bool.not_true, Bool.not_false, Bool.and_eq_true, Bool.or_eq_true, Bool.or_eq_false_iff, beq_iff_eq, beq_eq_false_iff_ne, ne_eq, Int.not_lt, Int.not_le, Decidable.not_not] at hc13); cases hc13

theorem peersLearnLaw_ok (l : List News) (id : Int) (G : AHeap) : PCalls Try.prog 10 [.imm (l.map encN), .int .i64 id] G (fun r => r = .bool true) := by
  refine LCalls.intro 328 fi10 rfl Try.ntmps10 rfl (fun _ h => h.elim) (fun H hH w0 hw0 => ?_)
  refine g_seq (fun K0 hK0 => ?_)
  refine g_region ?_
  refine g_step rfl (s_val (v_assign rfl) rfl rfl ?_)
  refine g_nil ?_
  refine g_next hK0 ?_
  refine g_seq (fun K1 hK1 => ?_)
  refine g_seq (fun K2 hK2 => ?_)
  refine g_region ?_
  refine g_step rfl (s_val (v_move rfl) rfl rfl ?_)
  refine g_step rfl (s_val (v_len ty103 rfl (by first | rfl | assumption) (by first | exact List.length_map .. | rfl)) rfl rfl ?_)
  refine g_step rfl (s_val (v_gtr rfl rfl) rfl rfl ?_)
  refine g_nil ?_
  refine g_next hK2 ?_
  refine g_cond rfl (fun hc22 => ?_) (fun hc22 => ?_)
  · try simp only [decide_eq_true_eq, decide_eq_false_iff_not, Bool.not_eq_true', Bool.not_eq_false', Bool.not_eq_eq_eq_not, Bool.not_true, Bool.not_false, Bool.and_eq_true, Bool.or_eq_true, Bool.or_eq_false_iff, beq_iff_eq, beq_eq_false_iff_ne, ne_eq, Int.not_lt, Int.not_le, Decidable.not_not] at hc22
    refine g_seq (fun K3 hK3 => ?_)
    refine g_region ?_
    refine g_step rfl (s_callp rfl rfl rfl (awake23_ok _) ?_)
    rintro _ rfl
    refine g_step rfl (s_val (v_assign rfl) rfl rfl ?_)
    refine g_nil ?_
    refine g_next hK3 ?_
    refine g_ret ?_
    refine g_then_ret ?_
    refine g_end1 (.inl rfl) Try.results10 (.tmp rfl) [] (ASub.refl _) (by first | exact AHeap.sub_trans hs_B hown.sub | exact AHeap.sub_trans hs_B1 hown8.sub | exact AHeap.sub_refl _) (fun p hp => by cases hp) ⟨rfl, ?_⟩
    rfl
  · try simp only [decide_eq_true_eq, decide_eq_false_iff_not, Bool.not_eq_true', Bool.not_eq_false', Bool.not_eq_eq_eq_not, Bool.not_true, Bool.not_false, Bool.and_eq_true, Bool.or_eq_true, Bool.or_eq_false_iff, beq_iff_eq, beq_eq_false_iff_ne, ne_eq, Int.not_lt, Int.not_le, Decidable.not_not] at hc22
    refine g_skip ?_
    refine g_next hK1 ?_
    refine g_seq (fun K4 hK4 => ?_)
    refine g_region ?_
    refine g_step rfl (s_call rfl rfl rfl (peersNew_ok _) (fun _ h => h.elim) ?_)
    rintro n1 r1 effs1 hn1 hdom1 ⟨p, r, hp1, hr1, hpr_p, rfl, rfl⟩ hok1
    have hw_p : w0.heap.size ≤ p := Nat.le_trans hn1 hp1
    have hw_r : w0.heap.size ≤ r := Nat.le_trans hn1 hr1
    have hz_p := hdom1 _ hp1
    have hz_r := hdom1 _ hr1
    have hz0_p := sub_none (AHeap.sub_refl _) hz_p
    have hz0_r := sub_none (AHeap.sub_refl _) hz_r
    generalize hE_G1 : setAll H [(p, .box (.agg [.map r])), (r, bookRow [])] = G1
    have hs_G1 : H.sub G1 := by rw [← hE_G1]; exact sub_set' (sub_set' (AHeap.sub_refl _) hz0_r) hz0_p
    have hq_G1_p : G1 p = some (.box (.agg [.map r])) := by rw [← hE_G1]; exact AHeap.get_set _ _ _
    have hq_G1_r : G1 r = some (bookRow []) := by rw [← hE_G1]; exact (AHeap.get_set_ne _ _ (Ne.symm hpr_p)).trans (AHeap.get_set _ _ _)
    refine g_step rfl (s_val (v_assign rfl) rfl rfl ?_)
    refine g_nil ?_
    refine g_next hK4 ?_
    refine g_seq (fun K5 hK5 => ?_)
    refine g_region ?_
    refine g_step rfl (s_val (v_assign rfl) rfl rfl ?_)
    refine g_nil ?_
    refine g_next hK5 ?_
    refine g_seq (fun K6 hK6 => ?_)
    refine g_region ?_
    refine g_step rfl (s_val (v_assign rfl) rfl rfl ?_)
    refine g_nil ?_
    refine g_next hK6 ?_
    refine g_seq (fun K7 hK7 => ?_)
    refine g_seq (fun K8 hK8 => ?_)
    refine g_region ?_
    refine g_step rfl (s_val (v_assign rfl) rfl rfl ?_)
    refine g_nil ?_
    refine g_next hK8 ?_
    refine g_block ?_
    first | refine g_keep [0, 1, 5, 6, 7, 8] [] [] (keep_cons rfl (keep_cons rfl (keep_cons rfl (keep_cons rfl (keep_cons rfl (keep_cons rfl keep_nil)))))) lkeep_nil keep_nil rfl ?_ | refine g_keep [0, 1, 5, 6, 7, 8] [] [] rfl rfl rfl rfl ?_
    refine g_loop (fun n env L B G => ∃ (k : Nat) (B0 : AHeap) (a : Int) (av7 : AV), k ≤ l.length ∧ n = l.length - k ∧ env = [(0, .imm (l.map encN)), (1, .int .i64 id), (5, .box p 0), (6, .int .i64 a), (7, av7), (8, .int .i64 (k : Int))] ∧ L = [] ∧ B = [] ∧ Own w0.heap.size 1 B0 av7 (((bookOf (l.take k)).map (·.1)).map (.int .i64)) G ∧ AtNews l (bookOf (l.take k)) id a ∧ B0 p = some (.box (.agg [.map r])) ∧ B0 r = some (bookRow (bookOf (l.take k))) ∧ H.sub B0) (l.length) ⟨0, G1, -1, .nil0, Nat.zero_le _, rfl, rfl, rfl, rfl, ⟨Own.nil .., .inl ⟨rfl, rfl⟩, hq_G1_p, hq_G1_r, hs_G1⟩⟩ (fun n env L B G hI => ?_)
    obtain ⟨k, B0, a, av7, hk, rfl, rfl, rfl, rfl, hown, hat, hbp, hbr, hs_B⟩ := hI
    have hq_G_p := hown.sub _ _ hbp
    have hq_G_r := hown.sub _ _ hbr
    refine g_seq (fun K9 hK9 => ?_)
    refine g_seq (fun K10 hK10 => ?_)
    refine g_region ?_
    refine g_step rfl (s_val (v_move rfl) rfl rfl ?_)
    refine g_step rfl (s_val (v_move rfl) rfl rfl ?_)
    refine g_step rfl (s_val (v_len ty103 rfl (by first | rfl | assumption) (by first | exact List.length_map .. | rfl)) rfl rfl ?_)
    refine g_step rfl (s_val (v_lss rfl rfl) rfl rfl ?_)
    refine g_nil ?_
    refine g_next hK10 ?_
    refine g_cond rfl (fun hc28 => ?_) (fun hc28 => ?_)
    · try simp only [decide_eq_true_eq, decide_eq_false_iff_not, Bool.not_eq_true', Bool.not_eq_false', Bool.not_eq_eq_eq_not, Bool.not_true, Bool.not_false, Bool.and_eq_true, Bool.or_eq_true, Bool.or_eq_false_iff, beq_iff_eq, beq_eq_false_iff_ne, ne_eq, Int.not_lt, Int.not_le, Decidable.not_not] at hc28
      obtain ⟨x, hx⟩ := get_some (l := l) (k := k) (by omega)
      have hL1 : (learnOk (bookOf (l.take k)) x.id x.inc x.sp) = true → (pget (learn (bookOf (l.take k)) x.id x.inc x.sp) x.id).isSome = true := fun h => by rw [learn_new h]; rfl
      have hL2 : (learnOk (bookOf (l.take k)) x.id x.inc x.sp) = true → lookPe (learn (bookOf (l.take k)) x.id x.inc x.sp) x.id = ⟨x.inc, x.sp⟩ := fun h => by rw [lookPe, learn_new h]; rfl
      have hL3 : (learnOk (bookOf (l.take k)) x.id x.inc x.sp) = false → (learn (bookOf (l.take k)) x.id x.inc x.sp) = (bookOf (l.take k)) := learn_old
      have hky := learn_keys (bookOf (l.take k)) x.id x.inc x.sp
      have hml : (bookOf (l.take k)).length ≤ 40 := Nat.le_trans (bookOf_length _) (by rw [List.length_take]; omega)
      refine g_skip ?_
      refine g_next hK9 ?_
      refine g_seq (fun K11 hK11 => ?_)
      refine g_block ?_
      refine g_seq (fun K12 hK12 => ?_)
      refine g_region ?_
      obtain ⟨Gz, hGz⟩ : ∃ Gz, Gz = G := ⟨_, rfl⟩
      refine g_step rfl (s_val (v_move rfl) rfl rfl ?_)
      refine g_step rfl (s_val (v_move rfl) rfl rfl ?_)
      refine g_step rfl (s_val (v_move rfl) rfl rfl ?_)
      refine g_step rfl (s_val (v_indexAddr ty103 ty113 rfl rfl (by first | rfl | assumption) (by first | rfl | exact (rfl : (0 : Int) = ((0 : Nat) : Int)) | exact (Int.toNat_of_nonneg (by omega)).symm) (by first | assumption | exact map_get (by assumption) | rfl) rfl) rfl rfl ?_)
      refine g_step rfl (s_val (by first | exact v_fieldAddr ty113 fo113_0 ty3 rfl | exact v_fieldAddr_box ty113 fo113_0 ty3 rfl) rfl rfl ?_)
      refine g_step rfl (s_val (by first | exact v_load ty3 rfl rfl (by first | rfl | assumption) (by first | assumption | exact map_get (by assumption) | rfl) rfl | exact v_load_box ty3 rfl rfl (by assumption) rfl) rfl rfl ?_)
      refine g_step rfl (s_callp rfl rfl rfl (peersGet_ok p r (bookOf (l.take k)) _ hq_G_p hq_G_r x.id) ?_)
      rintro _ rfl
      refine g_step rfl (s_val (v_move rfl) rfl rfl ?_)
      refine g_step rfl (s_val (v_extract rfl rfl) rfl rfl ?_)
      refine g_step rfl (s_val (v_extract rfl rfl) rfl rfl ?_)
      refine g_step rfl (s_alloc (av := (.agg [(.int .i64 0), (.int .i64 0), (.int .i64 0)])) ty109 rfl rfl rfl rfl ?_)
      refine g_step rfl (s_store_all ty109 rfl rfl rfl rfl rfl rfl ?_)
      refine g_step rfl (s_val (v_assign rfl) rfl rfl ?_)
      refine g_nil ?_
      refine g_next hK12 ?_
      refine g_cut (fun env L B G => ∃ (u : Bool), env = [(0, .imm (l.map encN)), (1, .int .i64 id), (5, .box p 0), (6, .int .i64 a), (7, av7), (8, .int .i64 (k : Int)), (10, .bool (pget (bookOf (l.take k)) x.id).isSome), (11, .bool u)] ∧ L = [(9, 9, 0)] ∧ B = [(9, (encPe (lookPe (bookOf (l.take k)) x.id)))] ∧ Gz = G ∧ u = (learnOk (bookOf (l.take k)) x.id x.inc x.sp)) ?_ (fun env L B G hI => ?_)
      · skip
        refine g_draw (n := 53) (fun j => !([] : List Nat).contains j) rfl rfl ?_
        skip
        refine m_take 0 false rfl rfl (by kernel_rfl) (by kernel_rfl) (by kernel_rfl) (fun _ _ _ _ h => h) (v_move rfl) rfl rfl ?_
        refine m_take 1 false rfl rfl (by kernel_rfl) (by kernel_rfl) (by kernel_rfl) (fun _ _ _ _ h => h) (v_move rfl) rfl rfl ?_
        refine m_take 2 false rfl rfl (by kernel_rfl) (by kernel_rfl) (by kernel_rfl) (fun _ _ _ _ h => h) (v_indexAddr ty103 ty113 rfl rfl (by first | rfl | assumption) (by first | rfl | exact (rfl : (0 : Int) = ((0 : Nat) : Int)) | exact (Int.toNat_of_nonneg (by omega)).symm) (by first | assumption | exact map_get (by assumption) | rfl) rfl) rfl rfl ?_
        refine m_take 3 false rfl rfl (by kernel_rfl) (by kernel_rfl) (by kernel_rfl) (fun _ _ _ _ h => h) (by first | exact v_fieldAddr ty113 fo113_0 ty3 rfl | exact v_fieldAddr_box ty113 fo113_0 ty3 rfl) rfl rfl ?_
        refine m_take 4 true rfl rfl (by kernel_rfl) (by kernel_rfl) (by kernel_rfl) (fun _ _ _ _ h => h) (by first | exact v_load ty3 rfl rfl (by first | rfl | assumption) (by first | assumption | exact map_get (by assumption) | rfl) rfl | exact v_load_box ty3 rfl rfl (by assumption) rfl) rfl rfl ?_
        refine m_take 5 false rfl rfl (by kernel_rfl) (by kernel_rfl) (by kernel_rfl) (fun _ _ _ _ h => h) (v_geq rfl rfl) rfl rfl ?_
        refine m_take 6 false rfl rfl (by kernel_rfl) (by kernel_rfl) (by kernel_rfl) (fun _ _ _ _ h => h) (v_move rfl) rfl rfl ?_
        refine m_split 47 rfl (fun hg47 => ?_) (fun hg47 => ?_)
        · try simp only [decide_eq_true_eq, decide_eq_false_iff_not, Bool.not_eq_true', Bool.not_eq_false', Bool.not_eq_eq_eq_not, Bool.not_true, Bool.not_false, Bool.and_eq_true, Bool.or_eq_true, Bool.or_eq_false_iff, beq_iff_eq, beq_eq_false_iff_ne, ne_eq, Int.not_lt, Int.not_le, Decidable.not_not] at hg47
          refine m_take_yes (j := 6) (t := 47) 7 false rfl rfl rfl rfl rfl (by kernel_rfl) (by kernel_rfl) (by kernel_rfl) (fun _ _ _ _ h => h) (v_move rfl) rfl rfl ?_
          refine m_take_yes (j := 6) (t := 47) 8 false rfl rfl rfl rfl rfl (by kernel_rfl) (by kernel_rfl) (by kernel_rfl) (fun _ _ _ _ h => h) (v_move rfl) rfl rfl ?_
          refine m_take_yes (j := 6) (t := 47) 9 false rfl rfl rfl rfl rfl (by kernel_rfl) (by kernel_rfl) (by kernel_rfl) (fun _ _ _ _ h => h) (v_indexAddr ty103 ty113 rfl rfl (by first | rfl | assumption) (by first | rfl | exact (rfl : (0 : Int) = ((0 : Nat) : Int)) | exact (Int.toNat_of_nonneg (by omega)).symm) (by first | assumption | exact map_get (by assumption) | rfl) rfl) rfl rfl ?_
          refine m_take_yes (j := 6) (t := 47) 10 false rfl rfl rfl rfl rfl (by kernel_rfl) (by kernel_rfl) (by kernel_rfl) (fun _ _ _ _ h => h) (by first | exact v_fieldAddr ty113 fo113_0 ty3 rfl | exact v_fieldAddr_box ty113 fo113_0 ty3 rfl) rfl rfl ?_
          refine m_take_yes (j := 6) (t := 47) 11 true rfl rfl rfl rfl rfl (by kernel_rfl) (by kernel_rfl) (by kernel_rfl) (fun _ _ _ _ h => h) (by first | exact v_load ty3 rfl rfl (by first | rfl | assumption) (by first | assumption | exact map_get (by assumption) | rfl) rfl | exact v_load_box ty3 rfl rfl (by assumption) rfl) rfl rfl ?_
          refine m_take_yes (j := 6) (t := 47) 12 false rfl rfl rfl rfl rfl (by kernel_rfl) (by kernel_rfl) (by kernel_rfl) (fun _ _ _ _ h => h) (v_leq rfl rfl) rfl rfl ?_
          refine m_take 13 false rfl rfl (by kernel_rfl) (by kernel_rfl) (by kernel_rfl) (fun _ _ _ _ h => h) (v_pick_t rfl rfl) rfl rfl ?_
          refine m_take 14 false rfl rfl (by kernel_rfl) (by kernel_rfl) (by kernel_rfl) (fun _ _ _ _ h => h) (v_move rfl) rfl rfl ?_
          refine m_split 55 rfl (fun hg55 => ?_) (fun hg55 => ?_)
          · try simp only [decide_eq_true_eq, decide_eq_false_iff_not, Bool.not_eq_true', Bool.not_eq_false', Bool.not_eq_eq_eq_not, Bool.not_true, Bool.not_false, Bool.and_eq_true, Bool.or_eq_true, Bool.or_eq_false_iff, beq_iff_eq, beq_eq_false_iff_ne, ne_eq, Int.not_lt, Int.not_le, Decidable.not_not] at hg55
            refine m_take_yes (j := 14) (t := 55) 15 false rfl rfl rfl rfl rfl (by kernel_rfl) (by kernel_rfl) (by kernel_rfl) (fun _ _ _ _ h => h) (v_move rfl) rfl rfl ?_
            refine m_take_yes (j := 14) (t := 55) 16 false rfl rfl rfl rfl rfl (by kernel_rfl) (by kernel_rfl) (by kernel_rfl) (fun _ _ _ _ h => h) (v_move rfl) rfl rfl ?_
            refine m_take_yes (j := 14) (t := 55) 17 false rfl rfl rfl rfl rfl (by kernel_rfl) (by kernel_rfl) (by kernel_rfl) (fun _ _ _ _ h => h) (v_indexAddr ty103 ty113 rfl rfl (by first | rfl | assumption) (by first | rfl | exact (rfl : (0 : Int) = ((0 : Nat) : Int)) | exact (Int.toNat_of_nonneg (by omega)).symm) (by first | assumption | exact map_get (by assumption) | rfl) rfl) rfl rfl ?_
            refine m_take_yes (j := 14) (t := 55) 18 false rfl rfl rfl rfl rfl (by kernel_rfl) (by kernel_rfl) (by kernel_rfl) (fun _ _ _ _ h => h) (by first | exact v_fieldAddr ty113 fo113_1 ty3 rfl | exact v_fieldAddr_box ty113 fo113_1 ty3 rfl) rfl rfl ?_
            refine m_take_yes (j := 14) (t := 55) 19 true rfl rfl rfl rfl rfl (by kernel_rfl) (by kernel_rfl) (by kernel_rfl) (fun _ _ _ _ h => h) (by first | exact v_load ty3 rfl rfl (by first | rfl | assumption) (by first | assumption | exact map_get (by assumption) | rfl) rfl | exact v_load_box ty3 rfl rfl (by assumption) rfl) rfl rfl ?_
            refine m_take_yes (j := 14) (t := 55) 20 false rfl rfl rfl rfl rfl (by kernel_rfl) (by kernel_rfl) (by kernel_rfl) (fun _ _ _ _ h => h) (v_geq rfl rfl) rfl rfl ?_
            refine m_take 21 false rfl rfl (by kernel_rfl) (by kernel_rfl) (by kernel_rfl) (fun _ _ _ _ h => h) (v_pick_t rfl rfl) rfl rfl ?_
            refine m_take 22 false rfl rfl (by kernel_rfl) (by kernel_rfl) (by kernel_rfl) (fun _ _ _ _ h => h) (v_move rfl) rfl rfl ?_
            refine m_split 63 rfl (fun hg63 => ?_) (fun hg63 => ?_)
            · try simp only [decide_eq_true_eq, decide_eq_false_iff_not, Bool.not_eq_true', Bool.not_eq_false', Bool.not_eq_eq_eq_not, Bool.not_true, Bool.not_false, Bool.and_eq_true, Bool.or_eq_true, Bool.or_eq_false_iff, beq_iff_eq, beq_eq_false_iff_ne, ne_eq, Int.not_lt, Int.not_le, Decidable.not_not] at hg63
              refine m_take_yes (j := 22) (t := 63) 23 false rfl rfl rfl rfl rfl (by kernel_rfl) (by kernel_rfl) (by kernel_rfl) (fun _ _ _ _ h => h) (v_move rfl) rfl rfl ?_
              refine m_take_yes (j := 22) (t := 63) 24 false rfl rfl rfl rfl rfl (by kernel_rfl) (by kernel_rfl) (by kernel_rfl) (fun _ _ _ _ h => h) (v_move rfl) rfl rfl ?_
              refine m_take_yes (j := 22) (t := 63) 25 false rfl rfl rfl rfl rfl (by kernel_rfl) (by kernel_rfl) (by kernel_rfl) (fun _ _ _ _ h => h) (v_indexAddr ty103 ty113 rfl rfl (by first | rfl | assumption) (by first | rfl | exact (rfl : (0 : Int) = ((0 : Nat) : Int)) | exact (Int.toNat_of_nonneg (by omega)).symm) (by first | assumption | exact map_get (by assumption) | rfl) rfl) rfl rfl ?_
              refine m_take_yes (j := 22) (t := 63) 26 false rfl rfl rfl rfl rfl (by kernel_rfl) (by kernel_rfl) (by kernel_rfl) (fun _ _ _ _ h => h) (by first | exact v_fieldAddr ty113 fo113_1 ty3 rfl | exact v_fieldAddr_box ty113 fo113_1 ty3 rfl) rfl rfl ?_
              refine m_take_yes (j := 22) (t := 63) 27 true rfl rfl rfl rfl rfl (by kernel_rfl) (by kernel_rfl) (by kernel_rfl) (fun _ _ _ _ h => h) (by first | exact v_load ty3 rfl rfl (by first | rfl | assumption) (by first | assumption | exact map_get (by assumption) | rfl) rfl | exact v_load_box ty3 rfl rfl (by assumption) rfl) rfl rfl ?_
              refine m_take_yes (j := 22) (t := 63) 28 false rfl rfl rfl rfl rfl (by kernel_rfl) (by kernel_rfl) (by kernel_rfl) (fun _ _ _ _ h => h) (v_leq rfl rfl) rfl rfl ?_
              refine m_take 29 false rfl rfl (by kernel_rfl) (by kernel_rfl) (by kernel_rfl) (fun _ _ _ _ h => h) (v_pick_t rfl rfl) rfl rfl ?_
              refine m_take 30 false rfl rfl (by kernel_rfl) (by kernel_rfl) (by kernel_rfl) (fun _ _ _ _ h => h) (v_move rfl) rfl rfl ?_
              refine m_split 71 rfl (fun hg71 => ?_) (fun hg71 => ?_)
              · try simp only [decide_eq_true_eq, decide_eq_false_iff_not, Bool.not_eq_true', Bool.not_eq_false', Bool.not_eq_eq_eq_not, Bool.not_true, Bool.not_false, Bool.and_eq_true, Bool.or_eq_true, Bool.or_eq_false_iff, beq_iff_eq, beq_eq_false_iff_ne, ne_eq, Int.not_lt, Int.not_le, Decidable.not_not] at hg71
                refine m_take_yes (j := 30) (t := 71) 31 false rfl rfl rfl rfl rfl (by kernel_rfl) (by kernel_rfl) (by kernel_rfl) (fun _ _ _ _ h => h) (v_move rfl) rfl rfl ?_
                refine m_take_yes (j := 30) (t := 71) 32 false rfl rfl rfl rfl rfl (by kernel_rfl) (by kernel_rfl) (by kernel_rfl) (fun _ _ _ _ h => h) (v_move rfl) rfl rfl ?_
                refine m_take_yes (j := 30) (t := 71) 33 false rfl rfl rfl rfl rfl (by kernel_rfl) (by kernel_rfl) (by kernel_rfl) (fun _ _ _ _ h => h) (v_indexAddr ty103 ty113 rfl rfl (by first | rfl | assumption) (by first | rfl | exact (rfl : (0 : Int) = ((0 : Nat) : Int)) | exact (Int.toNat_of_nonneg (by omega)).symm) (by first | assumption | exact map_get (by assumption) | rfl) rfl) rfl rfl ?_
                refine m_take_yes (j := 30) (t := 71) 34 false rfl rfl rfl rfl rfl (by kernel_rfl) (by kernel_rfl) (by kernel_rfl) (fun _ _ _ _ h => h) (by first | exact v_fieldAddr ty113 fo113_2 ty107 rfl | exact v_fieldAddr_box ty113 fo113_2 ty107 rfl) rfl rfl ?_
                refine m_take_yes (j := 30) (t := 71) 35 true rfl rfl rfl rfl rfl (by kernel_rfl) (by kernel_rfl) (by kernel_rfl) (fun _ _ _ _ h => h) (by first | exact v_load_elt ty107 rfl rfl (by first | rfl | assumption) (by first | assumption | exact map_get (by assumption) | rfl) rfl rfl | exact v_load_box_all ty107 rfl rfl (by assumption) rfl rfl | exact v_load_part (cs := [_, _]) ty107 rfl rfl (by first | rfl | assumption) (by first | assumption | exact map_get (by assumption) | rfl) rfl rfl rfl | exact v_load_box_part (cs := [_, _]) ty107 rfl rfl (by assumption) rfl rfl rfl) rfl rfl ?_
                refine m_one_yes (j := 30) (t := 71) 36 (by kernel_rfl) rfl rfl rfl rfl rfl ?_
                refine sm_callp rfl rfl rfl (spValid_ok _ _) ?_
                rintro _ rfl
                refine m_take 37 false rfl rfl (by kernel_rfl) (by kernel_rfl) (by kernel_rfl) (fun _ _ _ _ h => h) (v_pick_t rfl rfl) rfl rfl ?_
                refine m_take 38 false rfl rfl (by kernel_rfl) (by kernel_rfl) (by kernel_rfl) (fun _ _ _ _ h => h) (v_move rfl) rfl rfl ?_
                refine m_split 79 rfl (fun hg79 => ?_) (fun hg79 => ?_)
                · try simp only [decide_eq_true_eq, decide_eq_false_iff_not, Bool.not_eq_true', Bool.not_eq_false', Bool.not_eq_eq_eq_not, Bool.not_true, Bool.not_false, Bool.and_eq_true, Bool.or_eq_true, Bool.or_eq_false_iff, beq_iff_eq, beq_eq_false_iff_ne, ne_eq, Int.not_lt, Int.not_le, Decidable.not_not] at hg79
                  refine m_take_yes (j := 38) (t := 79) 39 false rfl rfl rfl rfl rfl (by kernel_rfl) (by kernel_rfl) (by kernel_rfl) (fun _ _ _ _ h => h) (v_move rfl) rfl rfl ?_
                  refine m_take_yes (j := 38) (t := 79) 40 false rfl rfl rfl rfl rfl (by kernel_rfl) (by kernel_rfl) (by kernel_rfl) (fun _ _ _ _ h => h) (v_not rfl) rfl rfl ?_
                  refine m_take_yes (j := 38) (t := 79) 41 false rfl rfl rfl rfl rfl (by kernel_rfl) (by kernel_rfl) (by kernel_rfl) (fun _ _ _ _ h => h) (v_move rfl) rfl rfl ?_
                  refine m_split 82 rfl (fun hg82 => ?_) (fun hg82 => ?_)
                  · try simp only [decide_eq_true_eq, decide_eq_false_iff_not, Bool.not_eq_true', Bool.not_eq_false', Bool.not_eq_eq_eq_not, Bool.not_true, Bool.not_false, Bool.and_eq_true, Bool.or_eq_true, Bool.or_eq_false_iff, beq_iff_eq, beq_eq_false_iff_ne, ne_eq, Int.not_lt, Int.not_le, Decidable.not_not] at hg82
                    refine m_take_no (j := 41) (t := 82) 42 rfl rfl rfl rfl rfl rfl (by kernel_rfl) (by kernel_rfl) (by kernel_rfl) (fun _ _ _ _ h => h) rfl rfl ?_
                    refine m_take_no (j := 41) (t := 82) 43 rfl rfl rfl rfl rfl rfl (by kernel_rfl) (by kernel_rfl) (by kernel_rfl) (fun _ _ _ _ h => h) rfl rfl ?_
                    refine m_take_no (j := 41) (t := 82) 44 rfl rfl rfl rfl rfl rfl (by kernel_rfl) (by kernel_rfl) (by kernel_rfl) (fun _ _ _ _ h => h) rfl rfl ?_
                    refine m_take_no (j := 41) (t := 82) 45 rfl rfl rfl rfl rfl rfl (by kernel_rfl) (by kernel_rfl) (by kernel_rfl) (fun _ _ _ _ h => h) rfl rfl ?_
                    refine m_take_no (j := 41) (t := 82) 46 rfl rfl rfl rfl rfl rfl (by kernel_rfl) (by kernel_rfl) (by kernel_rfl) (fun _ _ _ _ h => h) rfl rfl ?_
                    refine m_take_no (j := 41) (t := 82) 47 rfl rfl rfl rfl rfl rfl (by kernel_rfl) (by kernel_rfl) (by kernel_rfl) (fun _ _ _ _ h => h) rfl rfl ?_
                    refine m_take_no (j := 41) (t := 82) 48 rfl rfl rfl rfl rfl rfl (by kernel_rfl) (by kernel_rfl) (by kernel_rfl) (fun _ _ _ _ h => h) rfl rfl ?_
                    refine m_take_no (j := 41) (t := 82) 49 rfl rfl rfl rfl rfl rfl (by kernel_rfl) (by kernel_rfl) (by kernel_rfl) (fun _ _ _ _ h => h) rfl rfl ?_
                    refine m_take_yes (j := 38) (t := 79) 50 false rfl rfl rfl rfl rfl (by kernel_rfl) (by kernel_rfl) (by kernel_rfl) (fun _ _ _ _ h => h) (v_pick_t rfl rfl) rfl rfl ?_
                    refine m_take 51 false rfl rfl (by kernel_rfl) (by kernel_rfl) (by kernel_rfl) (fun _ _ _ _ h => h) (v_pick_t rfl rfl) rfl rfl ?_
                    refine m_take 52 false rfl rfl (by kernel_rfl) (by kernel_rfl) (by kernel_rfl) (fun _ _ _ _ h => h) (v_assign rfl) rfl rfl ?_
                    refine m_done (by kernel_rfl) ?_
                    first | refine g_keep [0, 1, 5, 6, 7, 8, 10, 11] [9] [9] (keep_cons rfl (keep_cons rfl (keep_cons rfl (keep_cons rfl (keep_cons rfl (keep_cons rfl (keep_cons rfl (keep_cons rfl keep_nil)))))))) (lkeep_cons rfl lkeep_nil) (keep_cons rfl keep_nil) rfl ?_ | refine g_keep [0, 1, 5, 6, 7, 8, 10, 11] [9] [9] rfl rfl rfl rfl ?_
                    exact g_has ⟨_, rfl, rfl, rfl, hGz, (by rw [learnOk_may]; first | (simp [*]; done) | exact (Bool.eq_false_iff.2 fun h => by simp only [Bool.and_eq_true, decide_eq_true_eq] at h; omega).symm)⟩
                  · try simp only [decide_eq_true_eq, decide_eq_false_iff_not, Bool.not_eq_true', Bool.not_eq_false', Bool.not_eq_eq_eq_not, Bool.not_true, Bool.not_false, Bool.and_eq_true, Bool.or_eq_true, Bool.or_eq_false_iff, beq_iff_eq, beq_eq_false_iff_ne, ne_eq, Int.not_lt, Int.not_le, Decidable.not_not] at hg82
                    refine m_takel_yes (j := 41) (t := 82) 42 rfl rfl rfl rfl rfl (by kernel_rfl) (by kernel_rfl) (by kernel_rfl) (fun _ _ _ _ h => h) (vl_fieldAddr ty109 fo109_0 ty3 rfl) rfl rfl ?_
                    refine m_take_yes (j := 41) (t := 82) 43 true rfl rfl rfl rfl rfl (by kernel_rfl) (by kernel_rfl) (by kernel_rfl) (fun _ _ _ _ h => h) (v_loadl ty3 rfl rfl rfl rfl) rfl rfl ?_
                    refine m_take_yes (j := 41) (t := 82) 44 false rfl rfl rfl rfl rfl (by kernel_rfl) (by kernel_rfl) (by kernel_rfl) (fun _ _ _ _ h => h) (v_move rfl) rfl rfl ?_
                    refine m_take_yes (j := 41) (t := 82) 45 false rfl rfl rfl rfl rfl (by kernel_rfl) (by kernel_rfl) (by kernel_rfl) (fun _ _ _ _ h => h) (v_move rfl) rfl rfl ?_
                    refine m_take_yes (j := 41) (t := 82) 46 false rfl rfl rfl rfl rfl (by kernel_rfl) (by kernel_rfl) (by kernel_rfl) (fun _ _ _ _ h => h) (v_indexAddr ty103 ty113 rfl rfl (by first | rfl | assumption) (by first | rfl | exact (rfl : (0 : Int) = ((0 : Nat) : Int)) | exact (Int.toNat_of_nonneg (by omega)).symm) (by first | assumption | exact map_get (by assumption) | rfl) rfl) rfl rfl ?_
                    refine m_take_yes (j := 41) (t := 82) 47 false rfl rfl rfl rfl rfl (by kernel_rfl) (by kernel_rfl) (by kernel_rfl) (fun _ _ _ _ h => h) (by first | exact v_fieldAddr ty113 fo113_1 ty3 rfl | exact v_fieldAddr_box ty113 fo113_1 ty3 rfl) rfl rfl ?_
                    refine m_take_yes (j := 41) (t := 82) 48 true rfl rfl rfl rfl rfl (by kernel_rfl) (by kernel_rfl) (by kernel_rfl) (fun _ _ _ _ h => h) (by first | exact v_load ty3 rfl rfl (by first | rfl | assumption) (by first | assumption | exact map_get (by assumption) | rfl) rfl | exact v_load_box ty3 rfl rfl (by assumption) rfl) rfl rfl ?_
                    refine m_take_yes (j := 41) (t := 82) 49 false rfl rfl rfl rfl rfl (by kernel_rfl) (by kernel_rfl) (by kernel_rfl) (fun _ _ _ _ h => h) (v_leq rfl rfl) rfl rfl ?_
                    refine m_take_yes (j := 38) (t := 79) 50 false rfl rfl rfl rfl rfl (by kernel_rfl) (by kernel_rfl) (by kernel_rfl) (fun _ _ _ _ h => h) (v_pick_f rfl rfl) rfl rfl ?_
                    refine m_take 51 false rfl rfl (by kernel_rfl) (by kernel_rfl) (by kernel_rfl) (fun _ _ _ _ h => h) (v_pick_t rfl rfl) rfl rfl ?_
                    refine m_take 52 false rfl rfl (by kernel_rfl) (by kernel_rfl) (by kernel_rfl) (fun _ _ _ _ h => h) (v_assign rfl) rfl rfl ?_
                    refine m_done (by kernel_rfl) ?_
                    first | refine g_keep [0, 1, 5, 6, 7, 8, 10, 11] [9] [9] (keep_cons rfl (keep_cons rfl (keep_cons rfl (keep_cons rfl (keep_cons rfl (keep_cons rfl (keep_cons rfl (keep_cons rfl keep_nil)))))))) (lkeep_cons rfl lkeep_nil) (keep_cons rfl keep_nil) rfl ?_ | refine g_keep [0, 1, 5, 6, 7, 8, 10, 11] [9] [9] rfl rfl rfl rfl ?_
                    exact g_has ⟨_, rfl, rfl, rfl, hGz, (by rw [learnOk_may]; first | (simp [*]; done) | exact (Bool.eq_false_iff.2 fun h => by simp only [Bool.and_eq_true, decide_eq_true_eq] at h; omega).symm)⟩
                · try simp only [decide_eq_true_eq, decide_eq_false_iff_not, Bool.not_eq_true', Bool.not_eq_false', Bool.not_eq_eq_eq_not, Bool.not_true, Bool.not_false, Bool.and_eq_true, Bool.or_eq_true, Bool.or_eq_false_iff, beq_iff_eq, beq_eq_false_iff_ne, ne_eq, Int.not_lt, Int.not_le, Decidable.not_not] at hg79
                  refine m_take_no (j := 38) (t := 79) 39 rfl rfl rfl rfl rfl rfl (by kernel_rfl) (by kernel_rfl) (by kernel_rfl) (fun _ _ _ _ h => h) rfl rfl ?_
                  refine m_take_no (j := 38) (t := 79) 40 rfl rfl rfl rfl rfl rfl (by kernel_rfl) (by kernel_rfl) (by kernel_rfl) (fun _ _ _ _ h => h) rfl rfl ?_
                  refine m_take_no (j := 38) (t := 79) 41 rfl rfl rfl rfl rfl rfl (by kernel_rfl) (by kernel_rfl) (by kernel_rfl) (fun _ _ _ _ h => h) rfl rfl ?_
                  refine m_take_und (j := 41) (t := 82) 42 rfl rfl rfl rfl rfl (by kernel_rfl) (by kernel_rfl) (by kernel_rfl) (fun _ _ _ _ h => h) rfl rfl ?_
                  refine m_take_und (j := 41) (t := 82) 43 rfl rfl rfl rfl rfl (by kernel_rfl) (by kernel_rfl) (by kernel_rfl) (fun _ _ _ _ h => h) rfl rfl ?_
                  refine m_take_und (j := 41) (t := 82) 44 rfl rfl rfl rfl rfl (by kernel_rfl) (by kernel_rfl) (by kernel_rfl) (fun _ _ _ _ h => h) rfl rfl ?_
                  refine m_take_und (j := 41) (t := 82) 45 rfl rfl rfl rfl rfl (by kernel_rfl) (by kernel_rfl) (by kernel_rfl) (fun _ _ _ _ h => h) rfl rfl ?_
                  refine m_take_und (j := 41) (t := 82) 46 rfl rfl rfl rfl rfl (by kernel_rfl) (by kernel_rfl) (by kernel_rfl) (fun _ _ _ _ h => h) rfl rfl ?_
                  refine m_take_und (j := 41) (t := 82) 47 rfl rfl rfl rfl rfl (by kernel_rfl) (by kernel_rfl) (by kernel_rfl) (fun _ _ _ _ h => h) rfl rfl ?_
                  refine m_take_und (j := 41) (t := 82) 48 rfl rfl rfl rfl rfl (by kernel_rfl) (by kernel_rfl) (by kernel_rfl) (fun _ _ _ _ h => h) rfl rfl ?_
                  refine m_take_und (j := 41) (t := 82) 49 rfl rfl rfl rfl rfl (by kernel_rfl) (by kernel_rfl) (by kernel_rfl) (fun _ _ _ _ h => h) rfl rfl ?_
                  refine m_take_no (j := 38) (t := 79) 50 rfl rfl rfl rfl rfl rfl (by kernel_rfl) (by kernel_rfl) (by kernel_rfl) (fun _ _ _ _ h => h) rfl rfl ?_
                  refine m_take 51 false rfl rfl (by kernel_rfl) (by kernel_rfl) (by kernel_rfl) (fun _ _ _ _ h => h) (v_pick_f rfl rfl) rfl rfl ?_
                  refine m_take 52 false rfl rfl (by kernel_rfl) (by kernel_rfl) (by kernel_rfl) (fun _ _ _ _ h => h) (v_assign rfl) rfl rfl ?_
                  refine m_done (by kernel_rfl) ?_
                  first | refine g_keep [0, 1, 5, 6, 7, 8, 10, 11] [9] [9] (keep_cons rfl (keep_cons rfl (keep_cons rfl (keep_cons rfl (keep_cons rfl (keep_cons rfl (keep_cons rfl (keep_cons rfl keep_nil)))))))) (lkeep_cons rfl lkeep_nil) (keep_cons rfl keep_nil) rfl ?_ | refine g_keep [0, 1, 5, 6, 7, 8, 10, 11] [9] [9] rfl rfl rfl rfl ?_
                  exact g_has ⟨_, rfl, rfl, rfl, hGz, (by rw [learnOk_may]; first | (simp [*]; done) | exact (Bool.eq_false_iff.2 fun h => by simp only [Bool.and_eq_true, decide_eq_true_eq] at h; omega).symm)⟩
              · try simp only [decide_eq_true_eq, decide_eq_false_iff_not, Bool.not_eq_true', Bool.not_eq_false', Bool.not_eq_eq_eq_not, Bool.not_true, Bool.not_false, Bool.and_eq_true, Bool.or_eq_true, Bool.or_eq_false_iff, beq_iff_eq, beq_eq_false_iff_ne, ne_eq, Int.not_lt, Int.not_le, Decidable.not_not] at hg71
                refine m_take_no (j := 30) (t := 71) 31 rfl rfl rfl rfl rfl rfl (by kernel_rfl) (by kernel_rfl) (by kernel_rfl) (fun _ _ _ _ h => h) rfl rfl ?_
                refine m_take_no (j := 30) (t := 71) 32 rfl rfl rfl rfl rfl rfl (by kernel_rfl) (by kernel_rfl) (by kernel_rfl) (fun _ _ _ _ h => h) rfl rfl ?_
                refine m_take_no (j := 30) (t := 71) 33 rfl rfl rfl rfl rfl rfl (by kernel_rfl) (by kernel_rfl) (by kernel_rfl) (fun _ _ _ _ h => h) rfl rfl ?_
                refine m_take_no (j := 30) (t := 71) 34 rfl rfl rfl rfl rfl rfl (by kernel_rfl) (by kernel_rfl) (by kernel_rfl) (fun _ _ _ _ h => h) rfl rfl ?_
                refine m_take_no (j := 30) (t := 71) 35 rfl rfl rfl rfl rfl rfl (by kernel_rfl) (by kernel_rfl) (by kernel_rfl) (fun _ _ _ _ h => h) rfl rfl ?_
                refine m_take_no (j := 30) (t := 71) 36 rfl rfl rfl rfl rfl rfl (by kernel_rfl) (by kernel_rfl) (by kernel_rfl) (fun _ _ _ _ h => h) rfl rfl ?_
                refine m_take 37 false rfl rfl (by kernel_rfl) (by kernel_rfl) (by kernel_rfl) (fun _ _ _ _ h => h) (v_pick_f rfl rfl) rfl rfl ?_
                refine m_take 38 false rfl rfl (by kernel_rfl) (by kernel_rfl) (by kernel_rfl) (fun _ _ _ _ h => h) (v_move rfl) rfl rfl ?_
                refine m_take_no (j := 38) (t := 79) 39 rfl rfl rfl rfl rfl rfl (by kernel_rfl) (by kernel_rfl) (by kernel_rfl) (fun _ _ _ _ h => h) rfl rfl ?_
                refine m_take_no (j := 38) (t := 79) 40 rfl rfl rfl rfl rfl rfl (by kernel_rfl) (by kernel_rfl) (by kernel_rfl) (fun _ _ _ _ h => h) rfl rfl ?_
                refine m_take_no (j := 38) (t := 79) 41 rfl rfl rfl rfl rfl rfl (by kernel_rfl) (by kernel_rfl) (by kernel_rfl) (fun _ _ _ _ h => h) rfl rfl ?_
                refine m_take_und (j := 41) (t := 82) 42 rfl rfl rfl rfl rfl (by kernel_rfl) (by kernel_rfl) (by kernel_rfl) (fun _ _ _ _ h => h) rfl rfl ?_
                refine m_take_und (j := 41) (t := 82) 43 rfl rfl rfl rfl rfl (by kernel_rfl) (by kernel_rfl) (by kernel_rfl) (fun _ _ _ _ h => h) rfl rfl ?_
                refine m_take_und (j := 41) (t := 82) 44 rfl rfl rfl rfl rfl (by kernel_rfl) (by kernel_rfl) (by kernel_rfl) (fun _ _ _ _ h => h) rfl rfl ?_
                refine m_take_und (j := 41) (t := 82) 45 rfl rfl rfl rfl rfl (by kernel_rfl) (by kernel_rfl) (by kernel_rfl) (fun _ _ _ _ h => h) rfl rfl ?_
                refine m_take_und (j := 41) (t := 82) 46 rfl rfl rfl rfl rfl (by kernel_rfl) (by kernel_rfl) (by kernel_rfl) (fun _ _ _ _ h => h) rfl rfl ?_
                refine m_take_und (j := 41) (t := 82) 47 rfl rfl rfl rfl rfl (by kernel_rfl) (by kernel_rfl) (by kernel_rfl) (fun _ _ _ _ h => h) rfl rfl ?_
                refine m_take_und (j := 41) (t := 82) 48 rfl rfl rfl rfl rfl (by kernel_rfl) (by kernel_rfl) (by kernel_rfl) (fun _ _ _ _ h => h) rfl rfl ?_
                refine m_take_und (j := 41) (t := 82) 49 rfl rfl rfl rfl rfl (by kernel_rfl) (by kernel_rfl) (by kernel_rfl) (fun _ _ _ _ h => h) rfl rfl ?_
                refine m_take_no (j := 38) (t := 79) 50 rfl rfl rfl rfl rfl rfl (by kernel_rfl) (by kernel_rfl) (by kernel_rfl) (fun _ _ _ _ h => h) rfl rfl ?_
                refine m_take 51 false rfl rfl (by kernel_rfl) (by kernel_rfl) (by kernel_rfl) (fun _ _ _ _ h => h) (v_pick_f rfl rfl) rfl rfl ?_
                refine m_take 52 false rfl rfl (by kernel_rfl) (by kernel_rfl) (by kernel_rfl) (fun _ _ _ _ h => h) (v_assign rfl) rfl rfl ?_
                refine m_done (by kernel_rfl) ?_
                first | refine g_keep [0, 1, 5, 6, 7, 8, 10, 11] [9] [9] (keep_cons rfl (keep_cons rfl (keep_cons rfl (keep_cons rfl (keep_cons rfl (keep_cons rfl (keep_cons rfl (keep_cons rfl keep_nil)))))))) (lkeep_cons rfl lkeep_nil) (keep_cons rfl keep_nil) rfl ?_ | refine g_keep [0, 1, 5, 6, 7, 8, 10, 11] [9] [9] rfl rfl rfl rfl ?_
                exact g_has ⟨_, rfl, rfl, rfl, hGz, (by rw [learnOk_may]; first | (simp [*]; done) | exact (Bool.eq_false_iff.2 fun h => by simp only [Bool.and_eq_true, decide_eq_true_eq] at h; omega).symm)⟩
            · try simp only [decide_eq_true_eq, decide_eq_false_iff_not, Bool.not_eq_true', Bool.not_eq_false', Bool.not_eq_eq_eq_not, Bool.not_true, Bool.not_false, Bool.and_eq_true, Bool.or_eq_true, Bool.or_eq_false_iff, beq_iff_eq, beq_eq_false_iff_ne, ne_eq, Int.not_lt, Int.not_le, Decidable.not_not] at hg63
              refine m_take_no (j := 22) (t := 63) 23 rfl rfl rfl rfl rfl rfl (by kernel_rfl) (by kernel_rfl) (by kernel_rfl) (fun _ _ _ _ h => h) rfl rfl ?_
              refine m_take_no (j := 22) (t := 63) 24 rfl rfl rfl rfl rfl rfl (by kernel_rfl) (by kernel_rfl) (by kernel_rfl) (fun _ _ _ _ h => h) rfl rfl ?_
              refine m_take_no (j := 22) (t := 63) 25 rfl rfl rfl rfl rfl rfl (by kernel_rfl) (by kernel_rfl) (by kernel_rfl) (fun _ _ _ _ h => h) rfl rfl ?_
              refine m_take_no (j := 22) (t := 63) 26 rfl rfl rfl rfl rfl rfl (by kernel_rfl) (by kernel_rfl) (by kernel_rfl) (fun _ _ _ _ h => h) rfl rfl ?_
              refine m_take_no (j := 22) (t := 63) 27 rfl rfl rfl rfl rfl rfl (by kernel_rfl) (by kernel_rfl) (by kernel_rfl) (fun _ _ _ _ h => h) rfl rfl ?_
              refine m_take_no (j := 22) (t := 63) 28 rfl rfl rfl rfl rfl rfl (by kernel_rfl) (by kernel_rfl) (by kernel_rfl) (fun _ _ _ _ h => h) rfl rfl ?_
              refine m_take 29 false rfl rfl (by kernel_rfl) (by kernel_rfl) (by kernel_rfl) (fun _ _ _ _ h => h) (v_pick_f rfl rfl) rfl rfl ?_
              refine m_take 30 false rfl rfl (by kernel_rfl) (by kernel_rfl) (by kernel_rfl) (fun _ _ _ _ h => h) (v_move rfl) rfl rfl ?_
              refine m_take_no (j := 30) (t := 71) 31 rfl rfl rfl rfl rfl rfl (by kernel_rfl) (by kernel_rfl) (by kernel_rfl) (fun _ _ _ _ h => h) rfl rfl ?_
              refine m_take_no (j := 30) (t := 71) 32 rfl rfl rfl rfl rfl rfl (by kernel_rfl) (by kernel_rfl) (by kernel_rfl) (fun _ _ _ _ h => h) rfl rfl ?_
              refine m_take_no (j := 30) (t := 71) 33 rfl rfl rfl rfl rfl rfl (by kernel_rfl) (by kernel_rfl) (by kernel_rfl) (fun _ _ _ _ h => h) rfl rfl ?_
              refine m_take_no (j := 30) (t := 71) 34 rfl rfl rfl rfl rfl rfl (by kernel_rfl) (by kernel_rfl) (by kernel_rfl) (fun _ _ _ _ h => h) rfl rfl ?_
              refine m_take_no (j := 30) (t := 71) 35 rfl rfl rfl rfl rfl rfl (by kernel_rfl) (by kernel_rfl) (by kernel_rfl) (fun _ _ _ _ h => h) rfl rfl ?_
              refine m_take_no (j := 30) (t := 71) 36 rfl rfl rfl rfl rfl rfl (by kernel_rfl) (by kernel_rfl) (by kernel_rfl) (fun _ _ _ _ h => h) rfl rfl ?_
              refine m_take 37 false rfl rfl (by kernel_rfl) (by kernel_rfl) (by kernel_rfl) (fun _ _ _ _ h => h) (v_pick_f rfl rfl) rfl rfl ?_
              refine m_take 38 false rfl rfl (by kernel_rfl) (by kernel_rfl) (by kernel_rfl) (fun _ _ _ _ h => h) (v_move rfl) rfl rfl ?_
              refine m_take_no (j := 38) (t := 79) 39 rfl rfl rfl rfl rfl rfl (by kernel_rfl) (by kernel_rfl) (by kernel_rfl) (fun _ _ _ _ h => h) rfl rfl ?_
              refine m_take_no (j := 38) (t := 79) 40 rfl rfl rfl rfl rfl rfl (by kernel_rfl) (by kernel_rfl) (by kernel_rfl) (fun _ _ _ _ h => h) rfl rfl ?_
              refine m_take_no (j := 38) (t := 79) 41 rfl rfl rfl rfl rfl rfl (by kernel_rfl) (by kernel_rfl) (by kernel_rfl) (fun _ _ _ _ h => h) rfl rfl ?_
              refine m_take_und (j := 41) (t := 82) 42 rfl rfl rfl rfl rfl (by kernel_rfl) (by kernel_rfl) (by kernel_rfl) (fun _ _ _ _ h => h) rfl rfl ?_
              refine m_take_und (j := 41) (t := 82) 43 rfl rfl rfl rfl rfl (by kernel_rfl) (by kernel_rfl) (by kernel_rfl) (fun _ _ _ _ h => h) rfl rfl ?_
              refine m_take_und (j := 41) (t := 82) 44 rfl rfl rfl rfl rfl (by kernel_rfl) (by kernel_rfl) (by kernel_rfl) (fun _ _ _ _ h => h) rfl rfl ?_
              refine m_take_und (j := 41) (t := 82) 45 rfl rfl rfl rfl rfl (by kernel_rfl) (by kernel_rfl) (by kernel_rfl) (fun _ _ _ _ h => h) rfl rfl ?_
              refine m_take_und (j := 41) (t := 82) 46 rfl rfl rfl rfl rfl (by kernel_rfl) (by kernel_rfl) (by kernel_rfl) (fun _ _ _ _ h => h) rfl rfl ?_
              refine m_take_und (j := 41) (t := 82) 47 rfl rfl rfl rfl rfl (by kernel_rfl) (by kernel_rfl) (by kernel_rfl) (fun _ _ _ _ h => h) rfl rfl ?_
              refine m_take_und (j := 41) (t := 82) 48 rfl rfl rfl rfl rfl (by kernel_rfl) (by kernel_rfl) (by kernel_rfl) (fun _ _ _ _ h => h) rfl rfl ?_
              refine m_take_und (j := 41) (t := 82) 49 rfl rfl rfl rfl rfl (by kernel_rfl) (by kernel_rfl) (by kernel_rfl) (fun _ _ _ _ h => h) rfl rfl ?_
              refine m_take_no (j := 38) (t := 79) 50 rfl rfl rfl rfl rfl rfl (by kernel_rfl) (by kernel_rfl) (by kernel_rfl) (fun _ _ _ _ h => h) rfl rfl ?_
              refine m_take 51 false rfl rfl (by kernel_rfl) (by kernel_rfl) (by kernel_rfl) (fun _ _ _ _ h => h) (v_pick_f rfl rfl) rfl rfl ?_
              refine m_take 52 false rfl rfl (by kernel_rfl) (by kernel_rfl) (by kernel_rfl) (fun _ _ _ _ h => h) (v_assign rfl) rfl rfl ?_
              refine m_done (by kernel_rfl) ?_
              first | refine g_keep [0, 1, 5, 6, 7, 8, 10, 11] [9] [9] (keep_cons rfl (keep_cons rfl (keep_cons rfl (keep_cons rfl (keep_cons rfl (keep_cons rfl (keep_cons rfl (keep_cons rfl keep_nil)))))))) (lkeep_cons rfl lkeep_nil) (keep_cons rfl keep_nil) rfl ?_ | refine g_keep [0, 1, 5, 6, 7, 8, 10, 11] [9] [9] rfl rfl rfl rfl ?_
              exact g_has ⟨_, rfl, rfl, rfl, hGz, (by rw [learnOk_may]; first | (simp [*]; done) | exact (Bool.eq_false_iff.2 fun h => by simp only [Bool.and_eq_true, decide_eq_true_eq] at h; omega).symm)⟩
          · try simp only [decide_eq_true_eq, decide_eq_false_iff_not, Bool.not_eq_true', Bool.not_eq_false', Bool.not_eq_eq_eq_not, Bool.not_true, Bool.not_false, Bool.and_eq_true, Bool.or_eq_true, Bool.or_eq_false_iff, beq_iff_eq, beq_eq_false_iff_ne, ne_eq, Int.not_lt, Int.not_le, Decidable.not_not] at hg55
            refine m_take_no (j := 14) (t := 55) 15 rfl rfl rfl rfl rfl rfl (by kernel_rfl) (by kernel_rfl) (by kernel_rfl) (fun _ _ _ _ h => h) rfl rfl ?_
            refine m_take_no (j := 14) (t := 55) 16 rfl rfl rfl rfl rfl rfl (by kernel_rfl) (by kernel_rfl) (by kernel_rfl) (fun _ _ _ _ h => h) rfl rfl ?_
            refine m_take_no (j := 14) (t := 55) 17 rfl rfl rfl rfl rfl rfl (by kernel_rfl) (by kernel_rfl) (by kernel_rfl) (fun _ _ _ _ h => h) rfl rfl ?_
            refine m_take_no (j := 14) (t := 55) 18 rfl rfl rfl rfl rfl rfl (by kernel_rfl) (by kernel_rfl) (by kernel_rfl) (fun _ _ _ _ h => h) rfl rfl ?_
            refine m_take_no (j := 14) (t := 55) 19 rfl rfl rfl rfl rfl rfl (by kernel_rfl) (by kernel_rfl) (by kernel_rfl) (fun _ _ _ _ h => h) rfl rfl ?_
            refine m_take_no (j := 14) (t := 55) 20 rfl rfl rfl rfl rfl rfl (by kernel_rfl) (by kernel_rfl) (by kernel_rfl) (fun _ _ _ _ h => h) rfl rfl ?_
            refine m_take 21 false rfl rfl (by kernel_rfl) (by kernel_rfl) (by kernel_rfl) (fun _ _ _ _ h => h) (v_pick_f rfl rfl) rfl rfl ?_
            refine m_take 22 false rfl rfl (by kernel_rfl) (by kernel_rfl) (by kernel_rfl) (fun _ _ _ _ h => h) (v_move rfl) rfl rfl ?_
            refine m_take_no (j := 22) (t := 63) 23 rfl rfl rfl rfl rfl rfl (by kernel_rfl) (by kernel_rfl) (by kernel_rfl) (fun _ _ _ _ h => h) rfl rfl ?_
            refine m_take_no (j := 22) (t := 63) 24 rfl rfl rfl rfl rfl rfl (by kernel_rfl) (by kernel_rfl) (by kernel_rfl) (fun _ _ _ _ h => h) rfl rfl ?_
            refine m_take_no (j := 22) (t := 63) 25 rfl rfl rfl rfl rfl rfl (by kernel_rfl) (by kernel_rfl) (by kernel_rfl) (fun _ _ _ _ h => h) rfl rfl ?_
            refine m_take_no (j := 22) (t := 63) 26 rfl rfl rfl rfl rfl rfl (by kernel_rfl) (by kernel_rfl) (by kernel_rfl) (fun _ _ _ _ h => h) rfl rfl ?_
            refine m_take_no (j := 22) (t := 63) 27 rfl rfl rfl rfl rfl rfl (by kernel_rfl) (by kernel_rfl) (by kernel_rfl) (fun _ _ _ _ h => h) rfl rfl ?_
            refine m_take_no (j := 22) (t := 63) 28 rfl rfl rfl rfl rfl rfl (by kernel_rfl) (by kernel_rfl) (by kernel_rfl) (fun _ _ _ _ h => h) rfl rfl ?_
            refine m_take 29 false rfl rfl (by kernel_rfl) (by kernel_rfl) (by kernel_rfl) (fun _ _ _ _ h => h) (v_pick_f rfl rfl) rfl rfl ?_
            refine m_take 30 false rfl rfl (by kernel_rfl) (by kernel_rfl) (by kernel_rfl) (fun _ _ _ _ h => h) (v_move rfl) rfl rfl ?_
            refine m_take_no (j := 30) (t := 71) 31 rfl rfl rfl rfl rfl rfl (by kernel_rfl) (by kernel_rfl) (by kernel_rfl) (fun _ _ _ _ h => h) rfl rfl ?_
            refine m_take_no (j := 30) (t := 71) 32 rfl rfl rfl rfl rfl rfl (by kernel_rfl) (by kernel_rfl) (by kernel_rfl) (fun _ _ _ _ h => h) rfl rfl ?_
            refine m_take_no (j := 30) (t := 71) 33 rfl rfl rfl rfl rfl rfl (by kernel_rfl) (by kernel_rfl) (by kernel_rfl) (fun _ _ _ _ h => h) rfl rfl ?_
            refine m_take_no (j := 30) (t := 71) 34 rfl rfl rfl rfl rfl rfl (by kernel_rfl) (by kernel_rfl) (by kernel_rfl) (fun _ _ _ _ h => h) rfl rfl ?_
            refine m_take_no (j := 30) (t := 71) 35 rfl rfl rfl rfl rfl rfl (by kernel_rfl) (by kernel_rfl) (by kernel_rfl) (fun _ _ _ _ h => h) rfl rfl ?_
            refine m_take_no (j := 30) (t := 71) 36 rfl rfl rfl rfl rfl rfl (by kernel_rfl) (by kernel_rfl) (by kernel_rfl) (fun _ _ _ _ h => h) rfl rfl ?_
            refine m_take 37 false rfl rfl (by kernel_rfl) (by kernel_rfl) (by kernel_rfl) (fun _ _ _ _ h => h) (v_pick_f rfl rfl) rfl rfl ?_
            refine m_take 38 false rfl rfl (by kernel_rfl) (by kernel_rfl) (by kernel_rfl) (fun _ _ _ _ h => h) (v_move rfl) rfl rfl ?_
            refine m_take_no (j := 38) (t := 79) 39 rfl rfl rfl rfl rfl rfl (by kernel_rfl) (by kernel_rfl) (by kernel_rfl) (fun _ _ _ _ h => h) rfl rfl ?_
            refine m_take_no (j := 38) (t := 79) 40 rfl rfl rfl rfl rfl rfl (by kernel_rfl) (by kernel_rfl) (by kernel_rfl) (fun _ _ _ _ h => h) rfl rfl ?_
            refine m_take_no (j := 38) (t := 79) 41 rfl rfl rfl rfl rfl rfl (by kernel_rfl) (by kernel_rfl) (by kernel_rfl) (fun _ _ _ _ h => h) rfl rfl ?_
            refine m_take_und (j := 41) (t := 82) 42 rfl rfl rfl rfl rfl (by kernel_rfl) (by kernel_rfl) (by kernel_rfl) (fun _ _ _ _ h => h) rfl rfl ?_
            refine m_take_und (j := 41) (t := 82) 43 rfl rfl rfl rfl rfl (by kernel_rfl) (by kernel_rfl) (by kernel_rfl) (fun _ _ _ _ h => h) rfl rfl ?_
            refine m_take_und (j := 41) (t := 82) 44 rfl rfl rfl rfl rfl (by kernel_rfl) (by kernel_rfl) (by kernel_rfl) (fun _ _ _ _ h => h) rfl rfl ?_
            refine m_take_und (j := 41) (t := 82) 45 rfl rfl rfl rfl rfl (by kernel_rfl) (by kernel_rfl) (by kernel_rfl) (fun _ _ _ _ h => h) rfl rfl ?_
            refine m_take_und (j := 41) (t := 82) 46 rfl rfl rfl rfl rfl (by kernel_rfl) (by kernel_rfl) (by kernel_rfl) (fun _ _ _ _ h => h) rfl rfl ?_
            refine m_take_und (j := 41) (t := 82) 47 rfl rfl rfl rfl rfl (by kernel_rfl) (by kernel_rfl) (by kernel_rfl) (fun _ _ _ _ h => h) rfl rfl ?_
            refine m_take_und (j := 41) (t := 82) 48 rfl rfl rfl rfl rfl (by kernel_rfl) (by kernel_rfl) (by kernel_rfl) (fun _ _ _ _ h => h) rfl rfl ?_
            refine m_take_und (j := 41) (t := 82) 49 rfl rfl rfl rfl rfl (by kernel_rfl) (by kernel_rfl) (by kernel_rfl) (fun _ _ _ _ h => h) rfl rfl ?_
            refine m_take_no (j := 38) (t := 79) 50 rfl rfl rfl rfl rfl rfl (by kernel_rfl) (by kernel_rfl) (by kernel_rfl) (fun _ _ _ _ h => h) rfl rfl ?_
            refine m_take 51 false rfl rfl (by kernel_rfl) (by kernel_rfl) (by kernel_rfl) (fun _ _ _ _ h => h) (v_pick_f rfl rfl) rfl rfl ?_
            refine m_take 52 false rfl rfl (by kernel_rfl) (by kernel_rfl) (by kernel_rfl) (fun _ _ _ _ h => h) (v_assign rfl) rfl rfl ?_
            refine m_done (by kernel_rfl) ?_
            first | refine g_keep [0, 1, 5, 6, 7, 8, 10, 11] [9] [9] (keep_cons rfl (keep_cons rfl (keep_cons rfl (keep_cons rfl (keep_cons rfl (keep_cons rfl (keep_cons rfl (keep_cons rfl keep_nil)))))))) (lkeep_cons rfl lkeep_nil) (keep_cons rfl keep_nil) rfl ?_ | refine g_keep [0, 1, 5, 6, 7, 8, 10, 11] [9] [9] rfl rfl rfl rfl ?_
            exact g_has ⟨_, rfl, rfl, rfl, hGz, (by rw [learnOk_may]; first | (simp [*]; done) | exact (Bool.eq_false_iff.2 fun h => by simp only [Bool.and_eq_true, decide_eq_true_eq] at h; omega).symm)⟩
        · try simp only [decide_eq_true_eq, decide_eq_false_iff_not, Bool.not_eq_true', Bool.not_eq_false', Bool.not_eq_eq_eq_not, Bool.not_true, Bool.not_false, Bool.and_eq_true, Bool.or_eq_true, Bool.or_eq_false_iff, beq_iff_eq, beq_eq_false_iff_ne, ne_eq, Int.not_lt, Int.not_le, Decidable.not_not] at hg47
          refine m_take_no (j := 6) (t := 47) 7 rfl rfl rfl rfl rfl rfl (by kernel_rfl) (by kernel_rfl) (by kernel_rfl) (fun _ _ _ _ h => h) rfl rfl ?_
          refine m_take_no (j := 6) (t := 47) 8 rfl rfl rfl rfl rfl rfl (by kernel_rfl) (by kernel_rfl) (by kernel_rfl) (fun _ _ _ _ h => h) rfl rfl ?_
          refine m_take_no (j := 6) (t := 47) 9 rfl rfl rfl rfl rfl rfl (by kernel_rfl) (by kernel_rfl) (by kernel_rfl) (fun _ _ _ _ h => h) rfl rfl ?_
          refine m_take_no (j := 6) (t := 47) 10 rfl rfl rfl rfl rfl rfl (by kernel_rfl) (by kernel_rfl) (by kernel_rfl) (fun _ _ _ _ h => h) rfl rfl ?_
          refine m_take_no (j := 6) (t := 47) 11 rfl rfl rfl rfl rfl rfl (by kernel_rfl) (by kernel_rfl) (by kernel_rfl) (fun _ _ _ _ h => h) rfl rfl ?_
          refine m_take_no (j := 6) (t := 47) 12 rfl rfl rfl rfl rfl rfl (by kernel_rfl) (by kernel_rfl) (by kernel_rfl) (fun _ _ _ _ h => h) rfl rfl ?_
          refine m_take 13 false rfl rfl (by kernel_rfl) (by kernel_rfl) (by kernel_rfl) (fun _ _ _ _ h => h) (v_pick_f rfl rfl) rfl rfl ?_
          refine m_take 14 false rfl rfl (by kernel_rfl) (by kernel_rfl) (by kernel_rfl) (fun _ _ _ _ h => h) (v_move rfl) rfl rfl ?_
          refine m_take_no (j := 14) (t := 55) 15 rfl rfl rfl rfl rfl rfl (by kernel_rfl) (by kernel_rfl) (by kernel_rfl) (fun _ _ _ _ h => h) rfl rfl ?_
          refine m_take_no (j := 14) (t := 55) 16 rfl rfl rfl rfl rfl rfl (by kernel_rfl) (by kernel_rfl) (by kernel_rfl) (fun _ _ _ _ h => h) rfl rfl ?_
          refine m_take_no (j := 14) (t := 55) 17 rfl rfl rfl rfl rfl rfl (by kernel_rfl) (by kernel_rfl) (by kernel_rfl) (fun _ _ _ _ h => h) rfl rfl ?_
          refine m_take_no (j := 14) (t := 55) 18 rfl rfl rfl rfl rfl rfl (by kernel_rfl) (by kernel_rfl) (by kernel_rfl) (fun _ _ _ _ h => h) rfl rfl ?_
          refine m_take_no (j := 14) (t := 55) 19 rfl rfl rfl rfl rfl rfl (by kernel_rfl) (by kernel_rfl) (by kernel_rfl) (fun _ _ _ _ h => h) rfl rfl ?_
          refine m_take_no (j := 14) (t := 55) 20 rfl rfl rfl rfl rfl rfl (by kernel_rfl) (by kernel_rfl) (by kernel_rfl) (fun _ _ _ _ h => h) rfl rfl ?_
          refine m_take 21 false rfl rfl (by kernel_rfl) (by kernel_rfl) (by kernel_rfl) (fun _ _ _ _ h => h) (v_pick_f rfl rfl) rfl rfl ?_
          refine m_take 22 false rfl rfl (by kernel_rfl) (by kernel_rfl) (by kernel_rfl) (fun _ _ _ _ h => h) (v_move rfl) rfl rfl ?_
          refine m_take_no (j := 22) (t := 63) 23 rfl rfl rfl rfl rfl rfl (by kernel_rfl) (by kernel_rfl) (by kernel_rfl) (fun _ _ _ _ h => h) rfl rfl ?_
          refine m_take_no (j := 22) (t := 63) 24 rfl rfl rfl rfl rfl rfl (by kernel_rfl) (by kernel_rfl) (by kernel_rfl) (fun _ _ _ _ h => h) rfl rfl ?_
          refine m_take_no (j := 22) (t := 63) 25 rfl rfl rfl rfl rfl rfl (by kernel_rfl) (by kernel_rfl) (by kernel_rfl) (fun _ _ _ _ h => h) rfl rfl ?_
          refine m_take_no (j := 22) (t := 63) 26 rfl rfl rfl rfl rfl rfl (by kernel_rfl) (by kernel_rfl) (by kernel_rfl) (fun _ _ _ _ h => h) rfl rfl ?_
          refine m_take_no (j := 22) (t := 63) 27 rfl rfl rfl rfl rfl rfl (by kernel_rfl) (by kernel_rfl) (by kernel_rfl) (fun _ _ _ _ h => h) rfl rfl ?_
          refine m_take_no (j := 22) (t := 63) 28 rfl rfl rfl rfl rfl rfl (by kernel_rfl) (by kernel_rfl) (by kernel_rfl) (fun _ _ _ _ h => h) rfl rfl ?_
          refine m_take 29 false rfl rfl (by kernel_rfl) (by kernel_rfl) (by kernel_rfl) (fun _ _ _ _ h => h) (v_pick_f rfl rfl) rfl rfl ?_
          refine m_take 30 false rfl rfl (by kernel_rfl) (by kernel_rfl) (by kernel_rfl) (fun _ _ _ _ h => h) (v_move rfl) rfl rfl ?_
          refine m_take_no (j := 30) (t := 71) 31 rfl rfl rfl rfl rfl rfl (by kernel_rfl) (by kernel_rfl) (by kernel_rfl) (fun _ _ _ _ h => h) rfl rfl ?_
          refine m_take_no (j := 30) (t := 71) 32 rfl rfl rfl rfl rfl rfl (by kernel_rfl) (by kernel_rfl) (by kernel_rfl) (fun _ _ _ _ h => h) rfl rfl ?_
          refine m_take_no (j := 30) (t := 71) 33 rfl rfl rfl rfl rfl rfl (by kernel_rfl) (by kernel_rfl) (by kernel_rfl) (fun _ _ _ _ h => h) rfl rfl ?_
          refine m_take_no (j := 30) (t := 71) 34 rfl rfl rfl rfl rfl rfl (by kernel_rfl) (by kernel_rfl) (by kernel_rfl) (fun _ _ _ _ h => h) rfl rfl ?_
          refine m_take_no (j := 30) (t := 71) 35 rfl rfl rfl rfl rfl rfl (by kernel_rfl) (by kernel_rfl) (by kernel_rfl) (fun _ _ _ _ h => h) rfl rfl ?_
          refine m_take_no (j := 30) (t := 71) 36 rfl rfl rfl rfl rfl rfl (by kernel_rfl) (by kernel_rfl) (by kernel_rfl) (fun _ _ _ _ h => h) rfl rfl ?_
          refine m_take 37 false rfl rfl (by kernel_rfl) (by kernel_rfl) (by kernel_rfl) (fun _ _ _ _ h => h) (v_pick_f rfl rfl) rfl rfl ?_
          refine m_take 38 false rfl rfl (by kernel_rfl) (by kernel_rfl) (by kernel_rfl) (fun _ _ _ _ h => h) (v_move rfl) rfl rfl ?_
          refine m_take_no (j := 38) (t := 79) 39 rfl rfl rfl rfl rfl rfl (by kernel_rfl) (by kernel_rfl) (by kernel_rfl) (fun _ _ _ _ h => h) rfl rfl ?_
          refine m_take_no (j := 38) (t := 79) 40 rfl rfl rfl rfl rfl rfl (by kernel_rfl) (by kernel_rfl) (by kernel_rfl) (fun _ _ _ _ h => h) rfl rfl ?_
          refine m_take_no (j := 38) (t := 79) 41 rfl rfl rfl rfl rfl rfl (by kernel_rfl) (by kernel_rfl) (by kernel_rfl) (fun _ _ _ _ h => h) rfl rfl ?_
          refine m_take_und (j := 41) (t := 82) 42 rfl rfl rfl rfl rfl (by kernel_rfl) (by kernel_rfl) (by kernel_rfl) (fun _ _ _ _ h => h) rfl rfl ?_
          refine m_take_und (j := 41) (t := 82) 43 rfl rfl rfl rfl rfl (by kernel_rfl) (by kernel_rfl) (by kernel_rfl) (fun _ _ _ _ h => h) rfl rfl ?_
          refine m_take_und (j := 41) (t := 82) 44 rfl rfl rfl rfl rfl (by kernel_rfl) (by kernel_rfl) (by kernel_rfl) (fun _ _ _ _ h => h) rfl rfl ?_
          refine m_take_und (j := 41) (t := 82) 45 rfl rfl rfl rfl rfl (by kernel_rfl) (by kernel_rfl) (by kernel_rfl) (fun _ _ _ _ h => h) rfl rfl ?_
          refine m_take_und (j := 41) (t := 82) 46 rfl rfl rfl rfl rfl (by kernel_rfl) (by kernel_rfl) (by kernel_rfl) (fun _ _ _ _ h => h) rfl rfl ?_
          refine m_take_und (j := 41) (t := 82) 47 rfl rfl rfl rfl rfl (by kernel_rfl) (by kernel_rfl) (by kernel_rfl) (fun _ _ _ _ h => h) rfl rfl ?_
          refine m_take_und (j := 41) (t := 82) 48 rfl rfl rfl rfl rfl (by kernel_rfl) (by kernel_rfl) (by kernel_rfl) (fun _ _ _ _ h => h) rfl rfl ?_
          refine m_take_und (j := 41) (t := 82) 49 rfl rfl rfl rfl rfl (by kernel_rfl) (by kernel_rfl) (by kernel_rfl) (fun _ _ _ _ h => h) rfl rfl ?_
          refine m_take_no (j := 38) (t := 79) 50 rfl rfl rfl rfl rfl rfl (by kernel_rfl) (by kernel_rfl) (by kernel_rfl) (fun _ _ _ _ h => h) rfl rfl ?_
          refine m_take 51 false rfl rfl (by kernel_rfl) (by kernel_rfl) (by kernel_rfl) (fun _ _ _ _ h => h) (v_pick_f rfl rfl) rfl rfl ?_
          refine m_take 52 false rfl rfl (by kernel_rfl) (by kernel_rfl) (by kernel_rfl) (fun _ _ _ _ h => h) (v_assign rfl) rfl rfl ?_
          refine m_done (by kernel_rfl) ?_
          first | refine g_keep [0, 1, 5, 6, 7, 8, 10, 11] [9] [9] (keep_cons rfl (keep_cons rfl (keep_cons rfl (keep_cons rfl (keep_cons rfl (keep_cons rfl (keep_cons rfl (keep_cons rfl keep_nil)))))))) (lkeep_cons rfl lkeep_nil) (keep_cons rfl keep_nil) rfl ?_ | refine g_keep [0, 1, 5, 6, 7, 8, 10, 11] [9] [9] rfl rfl rfl rfl ?_
          exact g_has ⟨_, rfl, rfl, rfl, hGz, (by rw [learnOk_may]; first | (simp [*]; done) | exact (Bool.eq_false_iff.2 fun h => by simp only [Bool.and_eq_true, decide_eq_true_eq] at h; omega).symm)⟩
      · skip
        obtain ⟨u, rfl, rfl, rfl, rfl, hu⟩ := hI
        subst hGz
        rw [← hu] at hL1 hL2 hL3 hky
        refine g_seq (fun K13 hK13 => ?_)
        refine g_seq (fun K14 hK14 => ?_)
        refine g_draw (n := 19) (fun j => !([16] : List Nat).contains j) rfl rfl ?_
        refine m_take 0 false rfl rfl (by kernel_rfl) (by kernel_rfl) (by kernel_rfl) (fun _ _ _ _ h => h) (v_move rfl) rfl rfl ?_
        refine m_take 1 false rfl rfl (by kernel_rfl) (by kernel_rfl) (by kernel_rfl) (fun _ _ _ _ h => h) (v_move rfl) rfl rfl ?_
        refine m_take 2 false rfl rfl (by kernel_rfl) (by kernel_rfl) (by kernel_rfl) (fun _ _ _ _ h => h) (v_move rfl) rfl rfl ?_
        refine m_take 3 false rfl rfl (by kernel_rfl) (by kernel_rfl) (by kernel_rfl) (fun _ _ _ _ h => h) (v_indexAddr ty103 ty113 rfl rfl (by first | rfl | assumption) (by first | rfl | exact (rfl : (0 : Int) = ((0 : Nat) : Int)) | exact (Int.toNat_of_nonneg (by omega)).symm) (by first | assumption | exact map_get (by assumption) | rfl) rfl) rfl rfl ?_
        refine m_take 4 false rfl rfl (by kernel_rfl) (by kernel_rfl) (by kernel_rfl) (fun _ _ _ _ h => h) (by first | exact v_fieldAddr ty113 fo113_0 ty3 rfl | exact v_fieldAddr_box ty113 fo113_0 ty3 rfl) rfl rfl ?_
        refine m_take 5 true rfl rfl (by kernel_rfl) (by kernel_rfl) (by kernel_rfl) (fun _ _ _ _ h => h) (by first | exact v_load ty3 rfl rfl (by first | rfl | assumption) (by first | assumption | exact map_get (by assumption) | rfl) rfl | exact v_load_box ty3 rfl rfl (by assumption) rfl) rfl rfl ?_
        refine m_take 6 false rfl rfl (by kernel_rfl) (by kernel_rfl) (by kernel_rfl) (fun _ _ _ _ h => h) (v_move rfl) rfl rfl ?_
        refine m_take 7 false rfl rfl (by kernel_rfl) (by kernel_rfl) (by kernel_rfl) (fun _ _ _ _ h => h) (v_move rfl) rfl rfl ?_
        refine m_take 8 false rfl rfl (by kernel_rfl) (by kernel_rfl) (by kernel_rfl) (fun _ _ _ _ h => h) (v_indexAddr ty103 ty113 rfl rfl (by first | rfl | assumption) (by first | rfl | exact (rfl : (0 : Int) = ((0 : Nat) : Int)) | exact (Int.toNat_of_nonneg (by omega)).symm) (by first | assumption | exact map_get (by assumption) | rfl) rfl) rfl rfl ?_
        refine m_take 9 false rfl rfl (by kernel_rfl) (by kernel_rfl) (by kernel_rfl) (fun _ _ _ _ h => h) (by first | exact v_fieldAddr ty113 fo113_1 ty3 rfl | exact v_fieldAddr_box ty113 fo113_1 ty3 rfl) rfl rfl ?_
        refine m_take 10 true rfl rfl (by kernel_rfl) (by kernel_rfl) (by kernel_rfl) (fun _ _ _ _ h => h) (by first | exact v_load ty3 rfl rfl (by first | rfl | assumption) (by first | assumption | exact map_get (by assumption) | rfl) rfl | exact v_load_box ty3 rfl rfl (by assumption) rfl) rfl rfl ?_
        refine m_take 11 false rfl rfl (by kernel_rfl) (by kernel_rfl) (by kernel_rfl) (fun _ _ _ _ h => h) (v_move rfl) rfl rfl ?_
        refine m_take 12 false rfl rfl (by kernel_rfl) (by kernel_rfl) (by kernel_rfl) (fun _ _ _ _ h => h) (v_move rfl) rfl rfl ?_
        refine m_take 13 false rfl rfl (by kernel_rfl) (by kernel_rfl) (by kernel_rfl) (fun _ _ _ _ h => h) (v_indexAddr ty103 ty113 rfl rfl (by first | rfl | assumption) (by first | rfl | exact (rfl : (0 : Int) = ((0 : Nat) : Int)) | exact (Int.toNat_of_nonneg (by omega)).symm) (by first | assumption | exact map_get (by assumption) | rfl) rfl) rfl rfl ?_
        refine m_take 14 false rfl rfl (by kernel_rfl) (by kernel_rfl) (by kernel_rfl) (fun _ _ _ _ h => h) (by first | exact v_fieldAddr ty113 fo113_2 ty107 rfl | exact v_fieldAddr_box ty113 fo113_2 ty107 rfl) rfl rfl ?_
        refine m_take 15 true rfl rfl (by kernel_rfl) (by kernel_rfl) (by kernel_rfl) (fun _ _ _ _ h => h) (by first | exact v_load_elt ty107 rfl rfl (by first | rfl | assumption) (by first | assumption | exact map_get (by assumption) | rfl) rfl rfl | exact v_load_box_all ty107 rfl rfl (by assumption) rfl rfl | exact v_load_part (cs := [_, _]) ty107 rfl rfl (by first | rfl | assumption) (by first | assumption | exact map_get (by assumption) | rfl) rfl rfl rfl | exact v_load_box_part (cs := [_, _]) ty107 rfl rfl (by assumption) rfl rfl rfl) rfl rfl ?_
        refine m_take 17 false rfl rfl (by kernel_rfl) (by kernel_rfl) (by kernel_rfl) (fun _ _ _ _ h => h) (v_move rfl) rfl rfl ?_
        refine m_one 16 (by kernel_rfl) rfl rfl ?_
        refine sm_any rfl (s_call rfl rfl rfl (peersLearn_ok p r (bookOf (l.take k)) _ hq_G_p hq_G_r x.id x.inc x.sp) (fun b hb => .inr (by subst hb; exact hw_r)) ?_)
        rintro n3 r3 effs3 hn3 hdom3 ⟨rfl, rfl⟩ hok3
        rw [← hu]
        have hown3 := own_put (bookRow (learn (bookOf (l.take k)) x.id x.inc x.sp)) hown hbr
        have hb1p : (B0.set r (bookRow (learn (bookOf (l.take k)) x.id x.inc x.sp))) p = some (.box (.agg [.map r])) := (AHeap.get_set_ne _ _ hpr_p).trans hbp
        have hb1r : (B0.set r (bookRow (learn (bookOf (l.take k)) x.id x.inc x.sp))) r = some (bookRow (learn (bookOf (l.take k)) x.id x.inc x.sp)) := AHeap.get_set _ _ _
        have hs_B1 : H.sub (B0.set r (bookRow (learn (bookOf (l.take k)) x.id x.inc x.sp))) := sub_set' hs_B hz0_r
        refine m_take 18 false rfl rfl (by kernel_rfl) (by kernel_rfl) (by kernel_rfl) (fun _ _ _ _ h => h) (v_bool_neq ty4 rfl rfl) rfl rfl ?_
        refine m_done (by kernel_rfl) ?_
        refine g_next hK14 ?_
        first | refine g_keep [0, 1, 5, 6, 7, 8, 10, 11, 111] [9] [9] (keep_cons rfl (keep_cons rfl (keep_cons rfl (keep_cons rfl (keep_cons rfl (keep_cons rfl (keep_cons rfl (keep_cons rfl (keep_cons rfl keep_nil))))))))) (lkeep_cons rfl lkeep_nil) (keep_cons rfl keep_nil) rfl ?_ | refine g_keep [0, 1, 5, 6, 7, 8, 10, 11, 111] [9] [9] rfl rfl rfl rfl ?_
        refine g_cond rfl (fun hc111 => ?_) (fun hc111 => ?_)
        · exfalso; (try simp only [decide_eq_true_eq, decide_eq_false_iff_not, Bool.not_eq_true', Bool.not_eq_false', Bool.not_eq_eq_eq_not, Bool.not_true, Bool.not_false, Bool.and_eq_true, Bool.or_eq_true, Bool.or_eq_false_iff, beq_iff_eq, beq_eq_false_iff_ne, ne_eq, Int.not_lt, Int.not_le, Decidable.not_not] at hc111); simp at hc111
        · try simp only [decide_eq_true_eq, decide_eq_false_iff_not, Bool.not_eq_true', Bool.not_eq_false', Bool.not_eq_eq_eq_not, Bool.not_true, Bool.not_false, Bool.and_eq_true, Bool.or_eq_true, Bool.or_eq_false_iff, beq_iff_eq, beq_eq_false_iff_ne, ne_eq, Int.not_lt, Int.not_le, Decidable.not_not] at hc111
          refine g_skip ?_
          refine g_next hK13 ?_
          refine g_cut (fun env L B G => ∃ (a2 : Int) (B1 : AHeap), env = [(0, .imm (l.map encN)), (1, .int .i64 id), (5, .box p 0), (6, .int .i64 a2), (7, av7), (8, .int .i64 (k : Int)), (10, .bool (pget (bookOf (l.take k)) x.id).isSome), (11, .bool u)] ∧ L = [(9, 9, 0)] ∧ B = [(9, (encPe (lookPe (bookOf (l.take k)) x.id)))] ∧ Own w0.heap.size 1 B1 av7 (((bookOf (l.take k)).map (·.1)).map (.int .i64)) G ∧ AtNews l (learn (bookOf (l.take k)) x.id x.inc x.sp) id a2 ∧ B1 p = some (.box (.agg [.map r])) ∧ B1 r = some (bookRow (learn (bookOf (l.take k)) x.id x.inc x.sp)) ∧ H.sub B1) ?_ (fun env L B G hI => ?_)
          · skip
            refine g_seq (fun K15 hK15 => ?_)
            refine g_region ?_
            refine g_step rfl (s_val (v_move rfl) rfl rfl ?_)
            refine g_step rfl (s_val (v_move rfl) rfl rfl ?_)
            refine g_split 113 rfl (fun hg113 => ?_) (fun hg113 => ?_)
            · try simp only [decide_eq_true_eq, decide_eq_false_iff_not, Bool.not_eq_true', Bool.not_eq_false', Bool.not_eq_eq_eq_not, Bool.not_true, Bool.not_false, Bool.and_eq_true, Bool.or_eq_true, Bool.or_eq_false_iff, beq_iff_eq, beq_eq_false_iff_ne, ne_eq, Int.not_lt, Int.not_le, Decidable.not_not] at hg113
              refine g_step_yes (j := 1) (t := 113) rfl rfl rfl rfl (s_val (v_move rfl) rfl rfl ?_)
              refine g_step_yes (j := 1) (t := 113) rfl rfl rfl rfl (s_val (v_move rfl) rfl rfl ?_)
              refine g_step_yes (j := 1) (t := 113) rfl rfl rfl rfl (s_val (v_indexAddr ty103 ty113 rfl rfl (by first | rfl | assumption) (by first | rfl | exact (rfl : (0 : Int) = ((0 : Nat) : Int)) | exact (Int.toNat_of_nonneg (by omega)).symm) (by first | assumption | exact map_get (by assumption) | rfl) rfl) rfl rfl ?_)
              refine g_step_yes (j := 1) (t := 113) rfl rfl rfl rfl (s_val (by first | exact v_fieldAddr ty113 fo113_0 ty3 rfl | exact v_fieldAddr_box ty113 fo113_0 ty3 rfl) rfl rfl ?_)
              refine g_step_yes (j := 1) (t := 113) rfl rfl rfl rfl (s_val (by first | exact v_load ty3 rfl rfl (by first | rfl | assumption) (by first | assumption | exact map_get (by assumption) | rfl) rfl | exact v_load_box ty3 rfl rfl (by assumption) rfl) rfl rfl ?_)
              refine g_step_yes (j := 1) (t := 113) rfl rfl rfl rfl (s_val (v_move rfl) rfl rfl ?_)
              refine g_step_yes (j := 1) (t := 113) rfl rfl rfl rfl (s_val (v_eql rfl rfl) rfl rfl ?_)
              refine g_step rfl (s_val (v_pick_t rfl rfl) rfl rfl ?_)
              refine g_nil ?_
              refine g_next hK15 ?_
              refine g_cond rfl (fun hc121 => ?_) (fun hc121 => ?_)
              · try simp only [decide_eq_true_eq, decide_eq_false_iff_not, Bool.not_eq_true', Bool.not_eq_false', Bool.not_eq_eq_eq_not, Bool.not_true, Bool.not_false, Bool.and_eq_true, Bool.or_eq_true, Bool.or_eq_false_iff, beq_iff_eq, beq_eq_false_iff_ne, ne_eq, Int.not_lt, Int.not_le, Decidable.not_not] at hc121
                refine g_region ?_
                refine g_step rfl (s_val (v_move rfl) rfl rfl ?_)
                refine g_step rfl (s_val (v_assign rfl) rfl rfl ?_)
                refine g_nil ?_
                first | refine g_keep [0, 1, 5, 6, 7, 8, 10, 11] [9] [9] (keep_cons rfl (keep_cons rfl (keep_cons rfl (keep_cons rfl (keep_cons rfl (keep_cons rfl (keep_cons rfl (keep_cons rfl keep_nil)))))))) (lkeep_cons rfl lkeep_nil) (keep_cons rfl keep_nil) rfl ?_ | refine g_keep [0, 1, 5, 6, 7, 8, 10, 11] [9] [9] rfl rfl rfl rfl ?_
                first | exact g_has ⟨(k : Int), B0.set r (bookRow (learn (bookOf (l.take k)) x.id x.inc x.sp)), rfl, rfl, rfl, ⟨hown3, AtNews.hit hx (hu.symm.trans (by assumption)) (by assumption), hb1p, hb1r, hs_B1⟩⟩ | exact g_has ⟨a, B0.set r (bookRow (learn (bookOf (l.take k)) x.id x.inc x.sp)), rfl, rfl, rfl, ⟨hown3, AtNews.miss hat (by rw [← hu]; rintro ⟨h1, h2⟩; first | exact hc121 h2 | (rw [h1] at hg113; cases hg113)), hb1p, hb1r, hs_B1⟩⟩
              · try simp only [decide_eq_true_eq, decide_eq_false_iff_not, Bool.not_eq_true', Bool.not_eq_false', Bool.not_eq_eq_eq_not, Bool.not_true, Bool.not_false, Bool.and_eq_true, Bool.or_eq_true, Bool.or_eq_false_iff, beq_iff_eq, beq_eq_false_iff_ne, ne_eq, Int.not_lt, Int.not_le, Decidable.not_not] at hc121
                refine g_skip ?_
                first | refine g_keep [0, 1, 5, 6, 7, 8, 10, 11] [9] [9] (keep_cons rfl (keep_cons rfl (keep_cons rfl (keep_cons rfl (keep_cons rfl (keep_cons rfl (keep_cons rfl (keep_cons rfl keep_nil)))))))) (lkeep_cons rfl lkeep_nil) (keep_cons rfl keep_nil) rfl ?_ | refine g_keep [0, 1, 5, 6, 7, 8, 10, 11] [9] [9] rfl rfl rfl rfl ?_
                first | exact g_has ⟨(k : Int), B0.set r (bookRow (learn (bookOf (l.take k)) x.id x.inc x.sp)), rfl, rfl, rfl, ⟨hown3, AtNews.hit hx (hu.symm.trans (by assumption)) (by assumption), hb1p, hb1r, hs_B1⟩⟩ | exact g_has ⟨a, B0.set r (bookRow (learn (bookOf (l.take k)) x.id x.inc x.sp)), rfl, rfl, rfl, ⟨hown3, AtNews.miss hat (by rw [← hu]; rintro ⟨h1, h2⟩; first | exact hc121 h2 | (rw [h1] at hg113; cases hg113)), hb1p, hb1r, hs_B1⟩⟩
            · try simp only [decide_eq_true_eq, decide_eq_false_iff_not, Bool.not_eq_true', Bool.not_eq_false', Bool.not_eq_eq_eq_not, Bool.not_true, Bool.not_false, Bool.and_eq_true, Bool.or_eq_true, Bool.or_eq_false_iff, beq_iff_eq, beq_eq_false_iff_ne, ne_eq, Int.not_lt, Int.not_le, Decidable.not_not] at hg113
              refine g_step_no (j := 1) (t := 113) rfl rfl rfl rfl rfl rfl rfl ?_
              refine g_step_no (j := 1) (t := 113) rfl rfl rfl rfl rfl rfl rfl ?_
              refine g_step_no (j := 1) (t := 113) rfl rfl rfl rfl rfl rfl rfl ?_
              refine g_step_no (j := 1) (t := 113) rfl rfl rfl rfl rfl rfl rfl ?_
              refine g_step_no (j := 1) (t := 113) rfl rfl rfl rfl rfl rfl rfl ?_
              refine g_step_no (j := 1) (t := 113) rfl rfl rfl rfl rfl rfl rfl ?_
              refine g_step_no (j := 1) (t := 113) rfl rfl rfl rfl rfl rfl rfl ?_
              refine g_step rfl (s_val (v_pick_f rfl rfl) rfl rfl ?_)
              refine g_nil ?_
              refine g_next hK15 ?_
              refine g_cond rfl (fun h => by cases h) (fun _ => ?_)
              refine g_skip ?_
              first | refine g_keep [0, 1, 5, 6, 7, 8, 10, 11] [9] [9] (keep_cons rfl (keep_cons rfl (keep_cons rfl (keep_cons rfl (keep_cons rfl (keep_cons rfl (keep_cons rfl (keep_cons rfl keep_nil)))))))) (lkeep_cons rfl lkeep_nil) (keep_cons rfl keep_nil) rfl ?_ | refine g_keep [0, 1, 5, 6, 7, 8, 10, 11] [9] [9] rfl rfl rfl rfl ?_
              first | exact g_has ⟨(k : Int), B0.set r (bookRow (learn (bookOf (l.take k)) x.id x.inc x.sp)), rfl, rfl, rfl, ⟨hown3, AtNews.hit hx (hu.symm.trans (by assumption)) (by assumption), hb1p, hb1r, hs_B1⟩⟩ | exact g_has ⟨a, B0.set r (bookRow (learn (bookOf (l.take k)) x.id x.inc x.sp)), rfl, rfl, rfl, ⟨hown3, AtNews.miss hat (by rw [← hu]; rintro ⟨h1, h2⟩; first | exact hc121 h2 | (rw [h1] at hg113; cases hg113)), hb1p, hb1r, hs_B1⟩⟩
          · skip
            obtain ⟨a2, B1, rfl, rfl, rfl, hown4, hat2, hb1p, hb1r, hs_B1⟩ := hI
            refine g_cut (fun env L B G => ∃ (av8 : AV), env = [(0, .imm (l.map encN)), (1, .int .i64 id), (5, .box p 0), (6, .int .i64 a2), (7, av8), (8, .int .i64 (k : Int)), (10, .bool (pget (bookOf (l.take k)) x.id).isSome), (11, .bool u)] ∧ L = [(9, 9, 0)] ∧ B = [(9, (encPe (lookPe (bookOf (l.take k)) x.id)))] ∧ Own w0.heap.size 1 B1 av8 (((learn (bookOf (l.take k)) x.id x.inc x.sp).map (·.1)).map (.int .i64)) G) ?_ (fun env L B G hI => ?_)
            · skip
              refine g_seq (fun K16 hK16 => ?_)
              refine g_region ?_
              refine g_step rfl (s_val (v_move rfl) rfl rfl ?_)
              refine g_step rfl (s_val (v_move rfl) rfl rfl ?_)
              refine g_split 124 rfl (fun hg124 => ?_) (fun hg124 => ?_)
              · try simp only [decide_eq_true_eq, decide_eq_false_iff_not, Bool.not_eq_true', Bool.not_eq_false', Bool.not_eq_eq_eq_not, Bool.not_true, Bool.not_false, Bool.and_eq_true, Bool.or_eq_true, Bool.or_eq_false_iff, beq_iff_eq, beq_eq_false_iff_ne, ne_eq, Int.not_lt, Int.not_le, Decidable.not_not] at hg124
                refine g_step_yes (j := 1) (t := 124) rfl rfl rfl rfl (s_val (v_move rfl) rfl rfl ?_)
                refine g_step_yes (j := 1) (t := 124) rfl rfl rfl rfl (s_val (v_not rfl) rfl rfl ?_)
                refine g_step rfl (s_val (v_pick_t rfl rfl) rfl rfl ?_)
                refine g_nil ?_
                refine g_next hK16 ?_
                refine g_cond rfl (fun hc127 => ?_) (fun hc127 => ?_)
                · try simp only [decide_eq_true_eq, decide_eq_false_iff_not, Bool.not_eq_true', Bool.not_eq_false', Bool.not_eq_eq_eq_not, Bool.not_true, Bool.not_false, Bool.and_eq_true, Bool.or_eq_true, Bool.or_eq_false_iff, beq_iff_eq, beq_eq_false_iff_ne, ne_eq, Int.not_lt, Int.not_le, Decidable.not_not] at hc127
                  refine g_region ?_
                  refine g_step rfl (s_val (v_move rfl) rfl rfl ?_)
                  refine g_step rfl (s_val (v_move rfl) rfl rfl ?_)
                  refine g_step rfl (s_val (v_move rfl) rfl rfl ?_)
                  refine g_step rfl (s_val (v_indexAddr ty103 ty113 rfl rfl (by first | rfl | assumption) (by first | rfl | exact (rfl : (0 : Int) = ((0 : Nat) : Int)) | exact (Int.toNat_of_nonneg (by omega)).symm) (by first | assumption | exact map_get (by assumption) | rfl) rfl) rfl rfl ?_)
                  refine g_step rfl (s_val (by first | exact v_fieldAddr ty113 fo113_0 ty3 rfl | exact v_fieldAddr_box ty113 fo113_0 ty3 rfl) rfl rfl ?_)
                  refine g_step rfl (s_val (by first | exact v_load ty3 rfl rfl (by first | rfl | assumption) (by first | assumption | exact map_get (by assumption) | rfl) rfl | exact v_load_box ty3 rfl rfl (by assumption) rfl) rfl rfl ?_)
                  refine g_step rfl (s_lit ty41 ty3 rfl rfl rfl rfl rfl rfl rfl ?_)
                  refine g_step rfl (s_append (l := (((bookOf (l.take k)).map (·.1)).map (.int .i64))) (m := ([x.id].map (.int .i64))) ty41 ty3 rfl rfl hown4 rfl rfl (by refine Even.map _ ?_ _; intro _; rfl) (by intro x hx; obtain ⟨_, _, rfl⟩ := List.mem_map.1 hx; rfl) rfl (by simp; omega) (by simp; omega) ?_)
                  intro av135 G135 h135
                  rw [← List.map_append] at h135
                  refine g_step rfl (s_val (v_assign rfl) rfl rfl ?_)
                  refine g_nil ?_
                  first | refine g_keep [0, 1, 5, 6, 7, 8, 10, 11] [9] [9] (keep_cons rfl (keep_cons rfl (keep_cons rfl (keep_cons rfl (keep_cons rfl (keep_cons rfl (keep_cons rfl (keep_cons rfl keep_nil)))))))) (lkeep_cons rfl lkeep_nil) (keep_cons rfl keep_nil) rfl ?_ | refine g_keep [0, 1, 5, 6, 7, 8, 10, 11] [9] [9] rfl rfl rfl rfl ?_
                  first | exact g_has ⟨av135, rfl, rfl, rfl, by rw [hky, if_pos ⟨by assumption, by assumption⟩]; exact h135⟩ | exact g_has ⟨av7, rfl, rfl, rfl, by rw [hky, if_neg (by rintro ⟨h1, h2⟩; first | (cases hg124.symm.trans h1; done) | (cases hc127.symm.trans h2; done))]; exact hown4⟩
                · try simp only [decide_eq_true_eq, decide_eq_false_iff_not, Bool.not_eq_true', Bool.not_eq_false', Bool.not_eq_eq_eq_not, Bool.not_true, Bool.not_false, Bool.and_eq_true, Bool.or_eq_true, Bool.or_eq_false_iff, beq_iff_eq, beq_eq_false_iff_ne, ne_eq, Int.not_lt, Int.not_le, Decidable.not_not] at hc127
                  refine g_skip ?_
                  first | refine g_keep [0, 1, 5, 6, 7, 8, 10, 11] [9] [9] (keep_cons rfl (keep_cons rfl (keep_cons rfl (keep_cons rfl (keep_cons rfl (keep_cons rfl (keep_cons rfl (keep_cons rfl keep_nil)))))))) (lkeep_cons rfl lkeep_nil) (keep_cons rfl keep_nil) rfl ?_ | refine g_keep [0, 1, 5, 6, 7, 8, 10, 11] [9] [9] rfl rfl rfl rfl ?_
                  first | exact g_has ⟨av135, rfl, rfl, rfl, by rw [hky, if_pos ⟨by assumption, by assumption⟩]; exact h135⟩ | exact g_has ⟨av7, rfl, rfl, rfl, by rw [hky, if_neg (by rintro ⟨h1, h2⟩; first | (cases hg124.symm.trans h1; done) | (cases hc127.symm.trans h2; done))]; exact hown4⟩
              · try simp only [decide_eq_true_eq, decide_eq_false_iff_not, Bool.not_eq_true', Bool.not_eq_false', Bool.not_eq_eq_eq_not, Bool.not_true, Bool.not_false, Bool.and_eq_true, Bool.or_eq_true, Bool.or_eq_false_iff, beq_iff_eq, beq_eq_false_iff_ne, ne_eq, Int.not_lt, Int.not_le, Decidable.not_not] at hg124
                refine g_step_no (j := 1) (t := 124) rfl rfl rfl rfl rfl rfl rfl ?_
                refine g_step_no (j := 1) (t := 124) rfl rfl rfl rfl rfl rfl rfl ?_
                refine g_step rfl (s_val (v_pick_f rfl rfl) rfl rfl ?_)
                refine g_nil ?_
                refine g_next hK16 ?_
                refine g_cond rfl (fun h => by cases h) (fun _ => ?_)
                refine g_skip ?_
                first | refine g_keep [0, 1, 5, 6, 7, 8, 10, 11] [9] [9] (keep_cons rfl (keep_cons rfl (keep_cons rfl (keep_cons rfl (keep_cons rfl (keep_cons rfl (keep_cons rfl (keep_cons rfl keep_nil)))))))) (lkeep_cons rfl lkeep_nil) (keep_cons rfl keep_nil) rfl ?_ | refine g_keep [0, 1, 5, 6, 7, 8, 10, 11] [9] [9] rfl rfl rfl rfl ?_
                first | exact g_has ⟨av135, rfl, rfl, rfl, by rw [hky, if_pos ⟨by assumption, by assumption⟩]; exact h135⟩ | exact g_has ⟨av7, rfl, rfl, rfl, by rw [hky, if_neg (by rintro ⟨h1, h2⟩; first | (cases hg124.symm.trans h1; done) | (cases hc127.symm.trans h2; done))]; exact hown4⟩
            · skip
              obtain ⟨av8, rfl, rfl, rfl, hown8⟩ := hI
              have hq8_p := hown8.sub _ _ hb1p
              have hq8_r := hown8.sub _ _ hb1r
              refine g_seq (fun K17 hK17 => ?_)
              refine g_region ?_
              refine g_step rfl (s_val (v_move rfl) rfl rfl ?_)
              refine g_step rfl (s_val (v_move rfl) rfl rfl ?_)
              refine g_step rfl (s_val (v_move rfl) rfl rfl ?_)
              refine g_step rfl (s_val (v_indexAddr ty103 ty113 rfl rfl (by first | rfl | assumption) (by first | rfl | exact (rfl : (0 : Int) = ((0 : Nat) : Int)) | exact (Int.toNat_of_nonneg (by omega)).symm) (by first | assumption | exact map_get (by assumption) | rfl) rfl) rfl rfl ?_)
              refine g_step rfl (s_val (by first | exact v_fieldAddr ty113 fo113_0 ty3 rfl | exact v_fieldAddr_box ty113 fo113_0 ty3 rfl) rfl rfl ?_)
              refine g_step rfl (s_val (by first | exact v_load ty3 rfl rfl (by first | rfl | assumption) (by first | assumption | exact map_get (by assumption) | rfl) rfl | exact v_load_box ty3 rfl rfl (by assumption) rfl) rfl rfl ?_)
              refine g_step rfl (s_callp rfl rfl rfl (peersGet_ok p r (learn (bookOf (l.take k)) x.id x.inc x.sp) _ hq8_p hq8_r x.id) ?_)
              rintro _ rfl
              refine g_step rfl (s_val (v_move rfl) rfl rfl ?_)
              refine g_step rfl (s_val (v_extract rfl rfl) rfl rfl ?_)
              refine g_step rfl (s_val (v_extract rfl rfl) rfl rfl ?_)
              refine g_step rfl (s_alloc (av := (.agg [(.int .i64 0), (.int .i64 0), (.int .i64 0)])) ty109 rfl rfl rfl rfl ?_)
              refine g_step rfl (s_store_all ty109 rfl rfl rfl rfl rfl rfl ?_)
              refine g_step rfl (s_val (v_assign rfl) rfl rfl ?_)
              refine g_nil ?_
              refine g_next hK17 ?_
              refine g_seq (fun K18 hK18 => ?_)
              refine g_seq (fun K19 hK19 => ?_)
              refine g_draw (n := 39) (fun j => !([] : List Nat).contains j) rfl rfl ?_
              refine m_take 0 false rfl rfl (by kernel_rfl) (by kernel_rfl) (by kernel_rfl) (fun _ _ _ _ h => h) (v_move rfl) rfl rfl ?_
              refine m_take 1 false rfl rfl (by kernel_rfl) (by kernel_rfl) (by kernel_rfl) (fun _ _ _ _ h => h) (v_move rfl) rfl rfl ?_
              refine m_split 147 rfl (fun hg147 => ?_) (fun hg147 => ?_)
              · try simp only [decide_eq_true_eq, decide_eq_false_iff_not, Bool.not_eq_true', Bool.not_eq_false', Bool.not_eq_eq_eq_not, Bool.not_true, Bool.not_false, Bool.and_eq_true, Bool.or_eq_true, Bool.or_eq_false_iff, beq_iff_eq, beq_eq_false_iff_ne, ne_eq, Int.not_lt, Int.not_le, Decidable.not_not] at hg147
                refine m_take_yes (j := 1) (t := 147) 2 false rfl rfl rfl rfl rfl (by kernel_rfl) (by kernel_rfl) (by kernel_rfl) (fun _ _ _ _ h => h) (v_move rfl) rfl rfl ?_
                refine m_take_yes (j := 1) (t := 147) 3 false rfl rfl rfl rfl rfl (by kernel_rfl) (by kernel_rfl) (by kernel_rfl) (fun _ _ _ _ h => h) (v_not rfl) rfl rfl ?_
                refine m_take_yes (j := 1) (t := 147) 4 false rfl rfl rfl rfl rfl (by kernel_rfl) (by kernel_rfl) (by kernel_rfl) (fun _ _ _ _ h => h) (v_move rfl) rfl rfl ?_
                refine m_split 150 rfl (fun hg150 => ?_) (fun hg150 => ?_)
                · exfalso; (try simp only [decide_eq_true_eq, decide_eq_false_iff_not, Bool.not_eq_true', Bool.not_eq_false', Bool.not_eq_eq_eq_not, Bool.not_true, Bool.not_false, Bool.and_eq_true, Bool.or_eq_true, Bool.or_eq_false_iff, beq_iff_eq, beq_eq_false_iff_ne, ne_eq, Int.not_lt, Int.not_le, Decidable.not_not] at hg150); simp [hL1 hg147] at hg150
                · try simp only [decide_eq_true_eq, decide_eq_false_iff_not, Bool.not_eq_true', Bool.not_eq_false', Bool.not_eq_eq_eq_not, Bool.not_true, Bool.not_false, Bool.and_eq_true, Bool.or_eq_true, Bool.or_eq_false_iff, beq_iff_eq, beq_eq_false_iff_ne, ne_eq, Int.not_lt, Int.not_le, Decidable.not_not] at hg150
                  refine m_takel_yes (j := 4) (t := 150) 5 rfl rfl rfl rfl rfl (by kernel_rfl) (by kernel_rfl) (by kernel_rfl) (fun _ _ _ _ h => h) (vl_fieldAddr ty109 fo109_0 ty3 rfl) rfl rfl ?_
                  refine m_take_yes (j := 4) (t := 150) 6 true rfl rfl rfl rfl rfl (by kernel_rfl) (by kernel_rfl) (by kernel_rfl) (fun _ _ _ _ h => h) (v_loadl ty3 rfl rfl rfl rfl) rfl rfl ?_
                  refine m_take_yes (j := 4) (t := 150) 7 false rfl rfl rfl rfl rfl (by kernel_rfl) (by kernel_rfl) (by kernel_rfl) (fun _ _ _ _ h => h) (v_move rfl) rfl rfl ?_
                  refine m_take_yes (j := 4) (t := 150) 8 false rfl rfl rfl rfl rfl (by kernel_rfl) (by kernel_rfl) (by kernel_rfl) (fun _ _ _ _ h => h) (v_move rfl) rfl rfl ?_
                  refine m_take_yes (j := 4) (t := 150) 9 false rfl rfl rfl rfl rfl (by kernel_rfl) (by kernel_rfl) (by kernel_rfl) (fun _ _ _ _ h => h) (v_indexAddr ty103 ty113 rfl rfl (by first | rfl | assumption) (by first | rfl | exact (rfl : (0 : Int) = ((0 : Nat) : Int)) | exact (Int.toNat_of_nonneg (by omega)).symm) (by first | assumption | exact map_get (by assumption) | rfl) rfl) rfl rfl ?_
                  refine m_take_yes (j := 4) (t := 150) 10 false rfl rfl rfl rfl rfl (by kernel_rfl) (by kernel_rfl) (by kernel_rfl) (fun _ _ _ _ h => h) (by first | exact v_fieldAddr ty113 fo113_1 ty3 rfl | exact v_fieldAddr_box ty113 fo113_1 ty3 rfl) rfl rfl ?_
                  refine m_take_yes (j := 4) (t := 150) 11 true rfl rfl rfl rfl rfl (by kernel_rfl) (by kernel_rfl) (by kernel_rfl) (fun _ _ _ _ h => h) (by first | exact v_load ty3 rfl rfl (by first | rfl | assumption) (by first | assumption | exact map_get (by assumption) | rfl) rfl | exact v_load_box ty3 rfl rfl (by assumption) rfl) rfl rfl ?_
                  refine m_take_yes (j := 4) (t := 150) 12 false rfl rfl rfl rfl rfl (by kernel_rfl) (by kernel_rfl) (by kernel_rfl) (fun _ _ _ _ h => h) (v_neq rfl rfl) rfl rfl ?_
                  refine m_take_yes (j := 1) (t := 147) 13 false rfl rfl rfl rfl rfl (by kernel_rfl) (by kernel_rfl) (by kernel_rfl) (fun _ _ _ _ h => h) (v_pick_f rfl rfl) rfl rfl ?_
                  refine m_take_yes (j := 1) (t := 147) 14 false rfl rfl rfl rfl rfl (by kernel_rfl) (by kernel_rfl) (by kernel_rfl) (fun _ _ _ _ h => h) (v_move rfl) rfl rfl ?_
                  refine m_split 160 rfl (fun hg160 => ?_) (fun hg160 => ?_)
                  · exfalso; (try simp only [decide_eq_true_eq, decide_eq_false_iff_not, Bool.not_eq_true', Bool.not_eq_false', Bool.not_eq_eq_eq_not, Bool.not_true, Bool.not_false, Bool.and_eq_true, Bool.or_eq_true, Bool.or_eq_false_iff, beq_iff_eq, beq_eq_false_iff_ne, ne_eq, Int.not_lt, Int.not_le, Decidable.not_not] at hg160); exact hg160 (by rw [hL2 hg147])
                  · try simp only [decide_eq_true_eq, decide_eq_false_iff_not, Bool.not_eq_true', Bool.not_eq_false', Bool.not_eq_eq_eq_not, Bool.not_true, Bool.not_false, Bool.and_eq_true, Bool.or_eq_true, Bool.or_eq_false_iff, beq_iff_eq, beq_eq_false_iff_ne, ne_eq, Int.not_lt, Int.not_le, Decidable.not_not] at hg160
                    refine m_takel_yes (j := 14) (t := 160) 15 rfl rfl rfl rfl rfl (by kernel_rfl) (by kernel_rfl) (by kernel_rfl) (fun _ _ _ _ h => h) (vl_fieldAddr ty109 fo109_1 ty107 rfl) rfl rfl ?_
                    refine m_takel_yes (j := 14) (t := 160) 16 rfl rfl rfl rfl rfl (by kernel_rfl) (by kernel_rfl) (by kernel_rfl) (fun _ _ _ _ h => h) (vl_fieldAddr ty107 fo107_0 ty3 rfl) rfl rfl ?_
                    refine m_take_yes (j := 14) (t := 160) 17 true rfl rfl rfl rfl rfl (by kernel_rfl) (by kernel_rfl) (by kernel_rfl) (fun _ _ _ _ h => h) (v_loadl ty3 rfl rfl rfl rfl) rfl rfl ?_
                    refine m_take_yes (j := 14) (t := 160) 18 false rfl rfl rfl rfl rfl (by kernel_rfl) (by kernel_rfl) (by kernel_rfl) (fun _ _ _ _ h => h) (v_move rfl) rfl rfl ?_
                    refine m_take_yes (j := 14) (t := 160) 19 false rfl rfl rfl rfl rfl (by kernel_rfl) (by kernel_rfl) (by kernel_rfl) (fun _ _ _ _ h => h) (v_move rfl) rfl rfl ?_
                    refine m_take_yes (j := 14) (t := 160) 20 false rfl rfl rfl rfl rfl (by kernel_rfl) (by kernel_rfl) (by kernel_rfl) (fun _ _ _ _ h => h) (v_indexAddr ty103 ty113 rfl rfl (by first | rfl | assumption) (by first | rfl | exact (rfl : (0 : Int) = ((0 : Nat) : Int)) | exact (Int.toNat_of_nonneg (by omega)).symm) (by first | assumption | exact map_get (by assumption) | rfl) rfl) rfl rfl ?_
                    refine m_take_yes (j := 14) (t := 160) 21 false rfl rfl rfl rfl rfl (by kernel_rfl) (by kernel_rfl) (by kernel_rfl) (fun _ _ _ _ h => h) (by first | exact v_fieldAddr ty113 fo113_2 ty107 rfl | exact v_fieldAddr_box ty113 fo113_2 ty107 rfl) rfl rfl ?_
                    refine m_take_yes (j := 14) (t := 160) 22 false rfl rfl rfl rfl rfl (by kernel_rfl) (by kernel_rfl) (by kernel_rfl) (fun _ _ _ _ h => h) (by first | exact v_fieldAddr ty107 fo107_0 ty3 rfl | exact v_fieldAddr_box ty107 fo107_0 ty3 rfl) rfl rfl ?_
                    refine m_take_yes (j := 14) (t := 160) 23 true rfl rfl rfl rfl rfl (by kernel_rfl) (by kernel_rfl) (by kernel_rfl) (fun _ _ _ _ h => h) (by first | exact v_load ty3 rfl rfl (by first | rfl | assumption) (by first | assumption | exact map_get (by assumption) | rfl) rfl | exact v_load_box ty3 rfl rfl (by assumption) rfl) rfl rfl ?_
                    refine m_take_yes (j := 14) (t := 160) 24 false rfl rfl rfl rfl rfl (by kernel_rfl) (by kernel_rfl) (by kernel_rfl) (fun _ _ _ _ h => h) (v_neq rfl rfl) rfl rfl ?_
                    refine m_take_yes (j := 1) (t := 147) 25 false rfl rfl rfl rfl rfl (by kernel_rfl) (by kernel_rfl) (by kernel_rfl) (fun _ _ _ _ h => h) (v_pick_f rfl rfl) rfl rfl ?_
                    refine m_take_yes (j := 1) (t := 147) 26 false rfl rfl rfl rfl rfl (by kernel_rfl) (by kernel_rfl) (by kernel_rfl) (fun _ _ _ _ h => h) (v_move rfl) rfl rfl ?_
                    refine m_split 172 rfl (fun hg172 => ?_) (fun hg172 => ?_)
                    · exfalso; (try simp only [decide_eq_true_eq, decide_eq_false_iff_not, Bool.not_eq_true', Bool.not_eq_false', Bool.not_eq_eq_eq_not, Bool.not_true, Bool.not_false, Bool.and_eq_true, Bool.or_eq_true, Bool.or_eq_false_iff, beq_iff_eq, beq_eq_false_iff_ne, ne_eq, Int.not_lt, Int.not_le, Decidable.not_not] at hg172); exact hg172 (by rw [hL2 hg147])
                    · try simp only [decide_eq_true_eq, decide_eq_false_iff_not, Bool.not_eq_true', Bool.not_eq_false', Bool.not_eq_eq_eq_not, Bool.not_true, Bool.not_false, Bool.and_eq_true, Bool.or_eq_true, Bool.or_eq_false_iff, beq_iff_eq, beq_eq_false_iff_ne, ne_eq, Int.not_lt, Int.not_le, Decidable.not_not] at hg172
                      refine m_takel_yes (j := 26) (t := 172) 27 rfl rfl rfl rfl rfl (by kernel_rfl) (by kernel_rfl) (by kernel_rfl) (fun _ _ _ _ h => h) (vl_fieldAddr ty109 fo109_1 ty107 rfl) rfl rfl ?_
                      refine m_takel_yes (j := 26) (t := 172) 28 rfl rfl rfl rfl rfl (by kernel_rfl) (by kernel_rfl) (by kernel_rfl) (fun _ _ _ _ h => h) (vl_fieldAddr ty107 fo107_1 ty3 rfl) rfl rfl ?_
                      refine m_take_yes (j := 26) (t := 172) 29 true rfl rfl rfl rfl rfl (by kernel_rfl) (by kernel_rfl) (by kernel_rfl) (fun _ _ _ _ h => h) (v_loadl ty3 rfl rfl rfl rfl) rfl rfl ?_
                      refine m_take_yes (j := 26) (t := 172) 30 false rfl rfl rfl rfl rfl (by kernel_rfl) (by kernel_rfl) (by kernel_rfl) (fun _ _ _ _ h => h) (v_move rfl) rfl rfl ?_
                      refine m_take_yes (j := 26) (t := 172) 31 false rfl rfl rfl rfl rfl (by kernel_rfl) (by kernel_rfl) (by kernel_rfl) (fun _ _ _ _ h => h) (v_move rfl) rfl rfl ?_
                      refine m_take_yes (j := 26) (t := 172) 32 false rfl rfl rfl rfl rfl (by kernel_rfl) (by kernel_rfl) (by kernel_rfl) (fun _ _ _ _ h => h) (v_indexAddr ty103 ty113 rfl rfl (by first | rfl | assumption) (by first | rfl | exact (rfl : (0 : Int) = ((0 : Nat) : Int)) | exact (Int.toNat_of_nonneg (by omega)).symm) (by first | assumption | exact map_get (by assumption) | rfl) rfl) rfl rfl ?_
                      refine m_take_yes (j := 26) (t := 172) 33 false rfl rfl rfl rfl rfl (by kernel_rfl) (by kernel_rfl) (by kernel_rfl) (fun _ _ _ _ h => h) (by first | exact v_fieldAddr ty113 fo113_2 ty107 rfl | exact v_fieldAddr_box ty113 fo113_2 ty107 rfl) rfl rfl ?_
                      refine m_take_yes (j := 26) (t := 172) 34 false rfl rfl rfl rfl rfl (by kernel_rfl) (by kernel_rfl) (by kernel_rfl) (fun _ _ _ _ h => h) (by first | exact v_fieldAddr ty107 fo107_1 ty3 rfl | exact v_fieldAddr_box ty107 fo107_1 ty3 rfl) rfl rfl ?_
                      refine m_take_yes (j := 26) (t := 172) 35 true rfl rfl rfl rfl rfl (by kernel_rfl) (by kernel_rfl) (by kernel_rfl) (fun _ _ _ _ h => h) (by first | exact v_load ty3 rfl rfl (by first | rfl | assumption) (by first | assumption | exact map_get (by assumption) | rfl) rfl | exact v_load_box ty3 rfl rfl (by assumption) rfl) rfl rfl ?_
                      refine m_take_yes (j := 26) (t := 172) 36 false rfl rfl rfl rfl rfl (by kernel_rfl) (by kernel_rfl) (by kernel_rfl) (fun _ _ _ _ h => h) (v_neq rfl rfl) rfl rfl ?_
                      refine m_take_yes (j := 1) (t := 147) 37 false rfl rfl rfl rfl rfl (by kernel_rfl) (by kernel_rfl) (by kernel_rfl) (fun _ _ _ _ h => h) (v_pick_f rfl rfl) rfl rfl ?_
                      refine m_take 38 false rfl rfl (by kernel_rfl) (by kernel_rfl) (by kernel_rfl) (fun _ _ _ _ h => h) (v_pick_t rfl rfl) rfl rfl ?_
                      refine m_done (by kernel_rfl) ?_
                      refine g_next hK19 ?_
                      first | refine g_keep [0, 1, 5, 6, 7, 8, 10, 11, 13, 184] [9, 12] [9, 12] (keep_cons rfl (keep_cons rfl (keep_cons rfl (keep_cons rfl (keep_cons rfl (keep_cons rfl (keep_cons rfl (keep_cons rfl (keep_cons rfl (keep_cons rfl keep_nil)))))))))) (lkeep_cons rfl (lkeep_cons rfl lkeep_nil)) (keep_cons rfl (keep_cons rfl keep_nil)) rfl ?_ | refine g_keep [0, 1, 5, 6, 7, 8, 10, 11, 13, 184] [9, 12] [9, 12] rfl rfl rfl rfl ?_
                      refine g_cond rfl (fun hc184 => ?_) (fun hc184 => ?_)
                      · exfalso; (try simp only [decide_eq_true_eq, decide_eq_false_iff_not, Bool.not_eq_true', Bool.not_eq_false', Bool.not_eq_eq_eq_not, Bool.not_true, Bool.not_false, Bool.and_eq_true, Bool.or_eq_true, Bool.or_eq_false_iff, beq_iff_eq, beq_eq_false_iff_ne, ne_eq, Int.not_lt, Int.not_le, Decidable.not_not] at hc184); exact hc184 (by rw [hL2 hg147])
                      · try simp only [decide_eq_true_eq, decide_eq_false_iff_not, Bool.not_eq_true', Bool.not_eq_false', Bool.not_eq_eq_eq_not, Bool.not_true, Bool.not_false, Bool.and_eq_true, Bool.or_eq_true, Bool.or_eq_false_iff, beq_iff_eq, beq_eq_false_iff_ne, ne_eq, Int.not_lt, Int.not_le, Decidable.not_not] at hc184
                        refine g_skip ?_
                        refine g_next hK18 ?_
                        refine g_seq (fun K20 hK20 => ?_)
                        refine g_region ?_
                        refine g_step rfl (s_val (v_move rfl) rfl rfl ?_)
                        refine g_step rfl (s_val (v_not rfl) rfl rfl ?_)
                        refine g_step rfl (s_val (v_move rfl) rfl rfl ?_)
                        refine g_split 187 rfl (fun hg187 => ?_) (fun hg187 => ?_)
                        · try simp only [decide_eq_true_eq, decide_eq_false_iff_not, Bool.not_eq_true', Bool.not_eq_false', Bool.not_eq_eq_eq_not, Bool.not_true, Bool.not_false, Bool.and_eq_true, Bool.or_eq_true, Bool.or_eq_false_iff, beq_iff_eq, beq_eq_false_iff_ne, ne_eq, Int.not_lt, Int.not_le, Decidable.not_not] at hg187
                          refine g_step_yes (j := 2) (t := 187) rfl rfl rfl rfl (s_val (v_move rfl) rfl rfl ?_)
                          refine g_step_yes (j := 2) (t := 187) rfl rfl rfl rfl (s_val (v_move rfl) rfl rfl ?_)
                          refine g_step_yes (j := 2) (t := 187) rfl rfl rfl rfl (s_val (v_bool_neq ty4 rfl rfl) rfl rfl ?_)
                          refine g_step_yes (j := 2) (t := 187) rfl rfl rfl rfl (s_val (v_move rfl) rfl rfl ?_)
                          refine g_split 191 rfl (fun hg191 => ?_) (fun hg191 => ?_)
                          · exfalso; (try simp only [decide_eq_true_eq, decide_eq_false_iff_not, Bool.not_eq_true', Bool.not_eq_false', Bool.not_eq_eq_eq_not, Bool.not_true, Bool.not_false, Bool.and_eq_true, Bool.or_eq_true, Bool.or_eq_false_iff, beq_iff_eq, beq_eq_false_iff_ne, ne_eq, Int.not_lt, Int.not_le, Decidable.not_not] at hg191); simp [hL3 hg187] at hg191
                          · try simp only [decide_eq_true_eq, decide_eq_false_iff_not, Bool.not_eq_true', Bool.not_eq_false', Bool.not_eq_eq_eq_not, Bool.not_true, Bool.not_false, Bool.and_eq_true, Bool.or_eq_true, Bool.or_eq_false_iff, beq_iff_eq, beq_eq_false_iff_ne, ne_eq, Int.not_lt, Int.not_le, Decidable.not_not] at hg191
                            refine g_step_yes (j := 6) (t := 191) rfl rfl rfl rfl (s_fieldAddr ty109 fo109_0 ty3 rfl rfl ?_)
                            refine g_step_yes (j := 6) (t := 191) rfl rfl rfl rfl (s_val (v_loadl ty3 rfl rfl rfl rfl) rfl rfl ?_)
                            refine g_step_yes (j := 6) (t := 191) rfl rfl rfl rfl (s_fieldAddr ty109 fo109_0 ty3 rfl rfl ?_)
                            refine g_step_yes (j := 6) (t := 191) rfl rfl rfl rfl (s_val (v_loadl ty3 rfl rfl rfl rfl) rfl rfl ?_)
                            refine g_step_yes (j := 6) (t := 191) rfl rfl rfl rfl (s_val (v_neq rfl rfl) rfl rfl ?_)
                            refine g_step_yes (j := 2) (t := 187) rfl rfl rfl rfl (s_val (v_pick_f rfl rfl) rfl rfl ?_)
                            refine g_step_yes (j := 2) (t := 187) rfl rfl rfl rfl (s_val (v_move rfl) rfl rfl ?_)
                            refine g_split 198 rfl (fun hg198 => ?_) (fun hg198 => ?_)
                            · exfalso; (try simp only [decide_eq_true_eq, decide_eq_false_iff_not, Bool.not_eq_true', Bool.not_eq_false', Bool.not_eq_eq_eq_not, Bool.not_true, Bool.not_false, Bool.and_eq_true, Bool.or_eq_true, Bool.or_eq_false_iff, beq_iff_eq, beq_eq_false_iff_ne, ne_eq, Int.not_lt, Int.not_le, Decidable.not_not] at hg198); simp [hL3 hg187] at hg198
                            · try simp only [decide_eq_true_eq, decide_eq_false_iff_not, Bool.not_eq_true', Bool.not_eq_false', Bool.not_eq_eq_eq_not, Bool.not_true, Bool.not_false, Bool.and_eq_true, Bool.or_eq_true, Bool.or_eq_false_iff, beq_iff_eq, beq_eq_false_iff_ne, ne_eq, Int.not_lt, Int.not_le, Decidable.not_not] at hg198
                              refine g_step_yes (j := 13) (t := 198) rfl rfl rfl rfl (s_fieldAddr ty109 fo109_1 ty107 rfl rfl ?_)
                              refine g_step_yes (j := 13) (t := 198) rfl rfl rfl rfl (s_fieldAddr ty107 fo107_0 ty3 rfl rfl ?_)
                              refine g_step_yes (j := 13) (t := 198) rfl rfl rfl rfl (s_val (v_loadl ty3 rfl rfl rfl rfl) rfl rfl ?_)
                              refine g_step_yes (j := 13) (t := 198) rfl rfl rfl rfl (s_fieldAddr ty109 fo109_1 ty107 rfl rfl ?_)
                              refine g_step_yes (j := 13) (t := 198) rfl rfl rfl rfl (s_fieldAddr ty107 fo107_0 ty3 rfl rfl ?_)
                              refine g_step_yes (j := 13) (t := 198) rfl rfl rfl rfl (s_val (v_loadl ty3 rfl rfl rfl rfl) rfl rfl ?_)
                              refine g_step_yes (j := 13) (t := 198) rfl rfl rfl rfl (s_val (v_neq rfl rfl) rfl rfl ?_)
                              refine g_step_yes (j := 2) (t := 187) rfl rfl rfl rfl (s_val (v_pick_f rfl rfl) rfl rfl ?_)
                              refine g_step_yes (j := 2) (t := 187) rfl rfl rfl rfl (s_val (v_move rfl) rfl rfl ?_)
                              refine g_split 207 rfl (fun hg207 => ?_) (fun hg207 => ?_)
                              · exfalso; (try simp only [decide_eq_true_eq, decide_eq_false_iff_not, Bool.not_eq_true', Bool.not_eq_false', Bool.not_eq_eq_eq_not, Bool.not_true, Bool.not_false, Bool.and_eq_true, Bool.or_eq_true, Bool.or_eq_false_iff, beq_iff_eq, beq_eq_false_iff_ne, ne_eq, Int.not_lt, Int.not_le, Decidable.not_not] at hg207); simp [hL3 hg187] at hg207
                              · try simp only [decide_eq_true_eq, decide_eq_false_iff_not, Bool.not_eq_true', Bool.not_eq_false', Bool.not_eq_eq_eq_not, Bool.not_true, Bool.not_false, Bool.and_eq_true, Bool.or_eq_true, Bool.or_eq_false_iff, beq_iff_eq, beq_eq_false_iff_ne, ne_eq, Int.not_lt, Int.not_le, Decidable.not_not] at hg207
                                refine g_step_yes (j := 22) (t := 207) rfl rfl rfl rfl (s_fieldAddr ty109 fo109_1 ty107 rfl rfl ?_)
                                refine g_step_yes (j := 22) (t := 207) rfl rfl rfl rfl (s_fieldAddr ty107 fo107_1 ty3 rfl rfl ?_)
                                refine g_step_yes (j := 22) (t := 207) rfl rfl rfl rfl (s_val (v_loadl ty3 rfl rfl rfl rfl) rfl rfl ?_)
                                refine g_step_yes (j := 22) (t := 207) rfl rfl rfl rfl (s_fieldAddr ty109 fo109_1 ty107 rfl rfl ?_)
                                refine g_step_yes (j := 22) (t := 207) rfl rfl rfl rfl (s_fieldAddr ty107 fo107_1 ty3 rfl rfl ?_)
                                refine g_step_yes (j := 22) (t := 207) rfl rfl rfl rfl (s_val (v_loadl ty3 rfl rfl rfl rfl) rfl rfl ?_)
                                refine g_step_yes (j := 22) (t := 207) rfl rfl rfl rfl (s_val (v_neq rfl rfl) rfl rfl ?_)
                                refine g_step_yes (j := 2) (t := 187) rfl rfl rfl rfl (s_val (v_pick_f rfl rfl) rfl rfl ?_)
                                refine g_step rfl (s_val (v_pick_t rfl rfl) rfl rfl ?_)
                                refine g_nil ?_
                                refine g_next hK20 ?_
                                first | refine g_keep [0, 1, 5, 6, 7, 8, 216] [] [] (keep_cons rfl (keep_cons rfl (keep_cons rfl (keep_cons rfl (keep_cons rfl (keep_cons rfl (keep_cons rfl keep_nil))))))) lkeep_nil keep_nil rfl ?_ | refine g_keep [0, 1, 5, 6, 7, 8, 216] [] [] rfl rfl rfl rfl ?_
                                refine g_cond rfl (fun hc216 => ?_) (fun hc216 => ?_)
                                · exfalso; (try simp only [decide_eq_true_eq, decide_eq_false_iff_not, Bool.not_eq_true', Bool.not_eq_false', Bool.not_eq_eq_eq_not, Bool.not_true, Bool.not_false, Bool.and_eq_true, Bool.or_eq_true, Bool.or_eq_false_iff, beq_iff_eq, beq_eq_false_iff_ne, ne_eq, Int.not_lt, Int.not_le, Decidable.not_not] at hc216); simp [hL3 hg187] at hc216
                                · try simp only [decide_eq_true_eq, decide_eq_false_iff_not, Bool.not_eq_true', Bool.not_eq_false', Bool.not_eq_eq_eq_not, Bool.not_true, Bool.not_false, Bool.and_eq_true, Bool.or_eq_true, Bool.or_eq_false_iff, beq_iff_eq, beq_eq_false_iff_ne, ne_eq, Int.not_lt, Int.not_le, Decidable.not_not] at hc216
                                  refine g_skip ?_
                                  refine g_block_normal ?_
                                  refine g_next hK11 ?_
                                  refine g_region ?_
                                  refine g_step rfl (s_val (v_move rfl) rfl rfl ?_)
                                  refine g_step rfl (s_val (v_add rfl rfl (by omega)) rfl rfl ?_)
                                  refine g_step rfl (s_val (v_assign rfl) rfl rfl ?_)
                                  refine g_nil ?_
                                  first | refine g_keep [0, 1, 5, 6, 7, 8] [] [] (keep_cons rfl (keep_cons rfl (keep_cons rfl (keep_cons rfl (keep_cons rfl (keep_cons rfl keep_nil)))))) lkeep_nil keep_nil rfl ?_ | refine g_keep [0, 1, 5, 6, 7, 8] [] [] rfl rfl rfl rfl ?_
                                  exact g_round _ (by omega) ⟨k + 1, B1, a2, av8, by omega, rfl, rfl, rfl, rfl, ⟨by rw [bookOf_take hx]; exact hown8, by rw [bookOf_take hx]; exact hat2, hb1p, by rw [bookOf_take hx]; exact hb1r, hs_B1⟩⟩
                        · try simp only [decide_eq_true_eq, decide_eq_false_iff_not, Bool.not_eq_true', Bool.not_eq_false', Bool.not_eq_eq_eq_not, Bool.not_true, Bool.not_false, Bool.and_eq_true, Bool.or_eq_true, Bool.or_eq_false_iff, beq_iff_eq, beq_eq_false_iff_ne, ne_eq, Int.not_lt, Int.not_le, Decidable.not_not] at hg187
                          refine g_step_no (j := 2) (t := 187) rfl rfl rfl rfl rfl rfl rfl ?_
                          refine g_step_no (j := 2) (t := 187) rfl rfl rfl rfl rfl rfl rfl ?_
                          refine g_step_no (j := 2) (t := 187) rfl rfl rfl rfl rfl rfl rfl ?_
                          refine g_step_no (j := 2) (t := 187) rfl rfl rfl rfl rfl rfl rfl ?_
                          refine g_step_und (j := 6) (t := 191) rfl rfl rfl rfl rfl rfl ?_
                          refine g_step_und (j := 6) (t := 191) rfl rfl rfl rfl rfl rfl ?_
                          refine g_step_und (j := 6) (t := 191) rfl rfl rfl rfl rfl rfl ?_
                          refine g_step_und (j := 6) (t := 191) rfl rfl rfl rfl rfl rfl ?_
                          refine g_step_und (j := 6) (t := 191) rfl rfl rfl rfl rfl rfl ?_
                          refine g_step_no (j := 2) (t := 187) rfl rfl rfl rfl rfl rfl rfl ?_
                          refine g_step_no (j := 2) (t := 187) rfl rfl rfl rfl rfl rfl rfl ?_
                          refine g_step_und (j := 13) (t := 198) rfl rfl rfl rfl rfl rfl ?_
                          refine g_step_und (j := 13) (t := 198) rfl rfl rfl rfl rfl rfl ?_
                          refine g_step_und (j := 13) (t := 198) rfl rfl rfl rfl rfl rfl ?_
                          refine g_step_und (j := 13) (t := 198) rfl rfl rfl rfl rfl rfl ?_
                          refine g_step_und (j := 13) (t := 198) rfl rfl rfl rfl rfl rfl ?_
                          refine g_step_und (j := 13) (t := 198) rfl rfl rfl rfl rfl rfl ?_
                          refine g_step_und (j := 13) (t := 198) rfl rfl rfl rfl rfl rfl ?_
                          refine g_step_no (j := 2) (t := 187) rfl rfl rfl rfl rfl rfl rfl ?_
                          refine g_step_no (j := 2) (t := 187) rfl rfl rfl rfl rfl rfl rfl ?_
                          refine g_step_und (j := 22) (t := 207) rfl rfl rfl rfl rfl rfl ?_
                          refine g_step_und (j := 22) (t := 207) rfl rfl rfl rfl rfl rfl ?_
                          refine g_step_und (j := 22) (t := 207) rfl rfl rfl rfl rfl rfl ?_
                          refine g_step_und (j := 22) (t := 207) rfl rfl rfl rfl rfl rfl ?_
                          refine g_step_und (j := 22) (t := 207) rfl rfl rfl rfl rfl rfl ?_
                          refine g_step_und (j := 22) (t := 207) rfl rfl rfl rfl rfl rfl ?_
                          refine g_step_und (j := 22) (t := 207) rfl rfl rfl rfl rfl rfl ?_
                          refine g_step_no (j := 2) (t := 187) rfl rfl rfl rfl rfl rfl rfl ?_
                          refine g_step rfl (s_val (v_pick_f rfl rfl) rfl rfl ?_)
                          refine g_nil ?_
                          refine g_next hK20 ?_
                          first | refine g_keep [0, 1, 5, 6, 7, 8, 216] [] [] (keep_cons rfl (keep_cons rfl (keep_cons rfl (keep_cons rfl (keep_cons rfl (keep_cons rfl (keep_cons rfl keep_nil))))))) lkeep_nil keep_nil rfl ?_ | refine g_keep [0, 1, 5, 6, 7, 8, 216] [] [] rfl rfl rfl rfl ?_
                          refine g_cond rfl (fun h => by cases h) (fun _ => ?_)
                          refine g_skip ?_
                          refine g_block_normal ?_
                          refine g_next hK11 ?_
                          refine g_region ?_
                          refine g_step rfl (s_val (v_move rfl) rfl rfl ?_)
                          refine g_step rfl (s_val (v_add rfl rfl (by omega)) rfl rfl ?_)
                          refine g_step rfl (s_val (v_assign rfl) rfl rfl ?_)
                          refine g_nil ?_
                          first | refine g_keep [0, 1, 5, 6, 7, 8] [] [] (keep_cons rfl (keep_cons rfl (keep_cons rfl (keep_cons rfl (keep_cons rfl (keep_cons rfl keep_nil)))))) lkeep_nil keep_nil rfl ?_ | refine g_keep [0, 1, 5, 6, 7, 8] [] [] rfl rfl rfl rfl ?_
                          exact g_round _ (by omega) ⟨k + 1, B1, a2, av8, by omega, rfl, rfl, rfl, rfl, ⟨by rw [bookOf_take hx]; exact hown8, by rw [bookOf_take hx]; exact hat2, hb1p, by rw [bookOf_take hx]; exact hb1r, hs_B1⟩⟩
              · try simp only [decide_eq_true_eq, decide_eq_false_iff_not, Bool.not_eq_true', Bool.not_eq_false', Bool.not_eq_eq_eq_not, Bool.not_true, Bool.not_false, Bool.and_eq_true, Bool.or_eq_true, Bool.or_eq_false_iff, beq_iff_eq, beq_eq_false_iff_ne, ne_eq, Int.not_lt, Int.not_le, Decidable.not_not] at hg147
                refine m_take_no (j := 1) (t := 147) 2 rfl rfl rfl rfl rfl rfl (by kernel_rfl) (by kernel_rfl) (by kernel_rfl) (fun _ _ _ _ h => h) rfl rfl ?_
                refine m_take_no (j := 1) (t := 147) 3 rfl rfl rfl rfl rfl rfl (by kernel_rfl) (by kernel_rfl) (by kernel_rfl) (fun _ _ _ _ h => h) rfl rfl ?_
                refine m_take_no (j := 1) (t := 147) 4 rfl rfl rfl rfl rfl rfl (by kernel_rfl) (by kernel_rfl) (by kernel_rfl) (fun _ _ _ _ h => h) rfl rfl ?_
                refine m_take_und (j := 4) (t := 150) 5 rfl rfl rfl rfl rfl (by kernel_rfl) (by kernel_rfl) (by kernel_rfl) (fun _ _ _ _ h => h) rfl rfl ?_
                refine m_take_und (j := 4) (t := 150) 6 rfl rfl rfl rfl rfl (by kernel_rfl) (by kernel_rfl) (by kernel_rfl) (fun _ _ _ _ h => h) rfl rfl ?_
                refine m_take_und (j := 4) (t := 150) 7 rfl rfl rfl rfl rfl (by kernel_rfl) (by kernel_rfl) (by kernel_rfl) (fun _ _ _ _ h => h) rfl rfl ?_
                refine m_take_und (j := 4) (t := 150) 8 rfl rfl rfl rfl rfl (by kernel_rfl) (by kernel_rfl) (by kernel_rfl) (fun _ _ _ _ h => h) rfl rfl ?_
                refine m_take_und (j := 4) (t := 150) 9 rfl rfl rfl rfl rfl (by kernel_rfl) (by kernel_rfl) (by kernel_rfl) (fun _ _ _ _ h => h) rfl rfl ?_
                refine m_take_und (j := 4) (t := 150) 10 rfl rfl rfl rfl rfl (by kernel_rfl) (by kernel_rfl) (by kernel_rfl) (fun _ _ _ _ h => h) rfl rfl ?_
                refine m_take_und (j := 4) (t := 150) 11 rfl rfl rfl rfl rfl (by kernel_rfl) (by kernel_rfl) (by kernel_rfl) (fun _ _ _ _ h => h) rfl rfl ?_
                refine m_take_und (j := 4) (t := 150) 12 rfl rfl rfl rfl rfl (by kernel_rfl) (by kernel_rfl) (by kernel_rfl) (fun _ _ _ _ h => h) rfl rfl ?_
                refine m_take_no (j := 1) (t := 147) 13 rfl rfl rfl rfl rfl rfl (by kernel_rfl) (by kernel_rfl) (by kernel_rfl) (fun _ _ _ _ h => h) rfl rfl ?_
                refine m_take_no (j := 1) (t := 147) 14 rfl rfl rfl rfl rfl rfl (by kernel_rfl) (by kernel_rfl) (by kernel_rfl) (fun _ _ _ _ h => h) rfl rfl ?_
                refine m_take_und (j := 14) (t := 160) 15 rfl rfl rfl rfl rfl (by kernel_rfl) (by kernel_rfl) (by kernel_rfl) (fun _ _ _ _ h => h) rfl rfl ?_
                refine m_take_und (j := 14) (t := 160) 16 rfl rfl rfl rfl rfl (by kernel_rfl) (by kernel_rfl) (by kernel_rfl) (fun _ _ _ _ h => h) rfl rfl ?_
                refine m_take_und (j := 14) (t := 160) 17 rfl rfl rfl rfl rfl (by kernel_rfl) (by kernel_rfl) (by kernel_rfl) (fun _ _ _ _ h => h) rfl rfl ?_
                refine m_take_und (j := 14) (t := 160) 18 rfl rfl rfl rfl rfl (by kernel_rfl) (by kernel_rfl) (by kernel_rfl) (fun _ _ _ _ h => h) rfl rfl ?_
                refine m_take_und (j := 14) (t := 160) 19 rfl rfl rfl rfl rfl (by kernel_rfl) (by kernel_rfl) (by kernel_rfl) (fun _ _ _ _ h => h) rfl rfl ?_
                refine m_take_und (j := 14) (t := 160) 20 rfl rfl rfl rfl rfl (by kernel_rfl) (by kernel_rfl) (by kernel_rfl) (fun _ _ _ _ h => h) rfl rfl ?_
                refine m_take_und (j := 14) (t := 160) 21 rfl rfl rfl rfl rfl (by kernel_rfl) (by kernel_rfl) (by kernel_rfl) (fun _ _ _ _ h => h) rfl rfl ?_
                refine m_take_und (j := 14) (t := 160) 22 rfl rfl rfl rfl rfl (by kernel_rfl) (by kernel_rfl) (by kernel_rfl) (fun _ _ _ _ h => h) rfl rfl ?_
                refine m_take_und (j := 14) (t := 160) 23 rfl rfl rfl rfl rfl (by kernel_rfl) (by kernel_rfl) (by kernel_rfl) (fun _ _ _ _ h => h) rfl rfl ?_
                refine m_take_und (j := 14) (t := 160) 24 rfl rfl rfl rfl rfl (by kernel_rfl) (by kernel_rfl) (by kernel_rfl) (fun _ _ _ _ h => h) rfl rfl ?_
                refine m_take_no (j := 1) (t := 147) 25 rfl rfl rfl rfl rfl rfl (by kernel_rfl) (by kernel_rfl) (by kernel_rfl) (fun _ _ _ _ h => h) rfl rfl ?_
                refine m_take_no (j := 1) (t := 147) 26 rfl rfl rfl rfl rfl rfl (by kernel_rfl) (by kernel_rfl) (by kernel_rfl) (fun _ _ _ _ h => h) rfl rfl ?_
                refine m_take_und (j := 26) (t := 172) 27 rfl rfl rfl rfl rfl (by kernel_rfl) (by kernel_rfl) (by kernel_rfl) (fun _ _ _ _ h => h) rfl rfl ?_
                refine m_take_und (j := 26) (t := 172) 28 rfl rfl rfl rfl rfl (by kernel_rfl) (by kernel_rfl) (by kernel_rfl) (fun _ _ _ _ h => h) rfl rfl ?_
                refine m_take_und (j := 26) (t := 172) 29 rfl rfl rfl rfl rfl (by kernel_rfl) (by kernel_rfl) (by kernel_rfl) (fun _ _ _ _ h => h) rfl rfl ?_
                refine m_take_und (j := 26) (t := 172) 30 rfl rfl rfl rfl rfl (by kernel_rfl) (by kernel_rfl) (by kernel_rfl) (fun _ _ _ _ h => h) rfl rfl ?_
                refine m_take_und (j := 26) (t := 172) 31 rfl rfl rfl rfl rfl (by kernel_rfl) (by kernel_rfl) (by kernel_rfl) (fun _ _ _ _ h => h) rfl rfl ?_
                refine m_take_und (j := 26) (t := 172) 32 rfl rfl rfl rfl rfl (by kernel_rfl) (by kernel_rfl) (by kernel_rfl) (fun _ _ _ _ h => h) rfl rfl ?_
                refine m_take_und (j := 26) (t := 172) 33 rfl rfl rfl rfl rfl (by kernel_rfl) (by kernel_rfl) (by kernel_rfl) (fun _ _ _ _ h => h) rfl rfl ?_
                refine m_take_und (j := 26) (t := 172) 34 rfl rfl rfl rfl rfl (by kernel_rfl) (by kernel_rfl) (by kernel_rfl) (fun _ _ _ _ h => h) rfl rfl ?_
                refine m_take_und (j := 26) (t := 172) 35 rfl rfl rfl rfl rfl (by kernel_rfl) (by kernel_rfl) (by kernel_rfl) (fun _ _ _ _ h => h) rfl rfl ?_
                refine m_take_und (j := 26) (t := 172) 36 rfl rfl rfl rfl rfl (by kernel_rfl) (by kernel_rfl) (by kernel_rfl) (fun _ _ _ _ h => h) rfl rfl ?_
                refine m_take_no (j := 1) (t := 147) 37 rfl rfl rfl rfl rfl rfl (by kernel_rfl) (by kernel_rfl) (by kernel_rfl) (fun _ _ _ _ h => h) rfl rfl ?_
                refine m_take 38 false rfl rfl (by kernel_rfl) (by kernel_rfl) (by kernel_rfl) (fun _ _ _ _ h => h) (v_pick_f rfl rfl) rfl rfl ?_
                refine m_done (by kernel_rfl) ?_
                refine g_next hK19 ?_
                first | refine g_keep [0, 1, 5, 6, 7, 8, 10, 11, 13, 184] [9, 12] [9, 12] (keep_cons rfl (keep_cons rfl (keep_cons rfl (keep_cons rfl (keep_cons rfl (keep_cons rfl (keep_cons rfl (keep_cons rfl (keep_cons rfl (keep_cons rfl keep_nil)))))))))) (lkeep_cons rfl (lkeep_cons rfl lkeep_nil)) (keep_cons rfl (keep_cons rfl keep_nil)) rfl ?_ | refine g_keep [0, 1, 5, 6, 7, 8, 10, 11, 13, 184] [9, 12] [9, 12] rfl rfl rfl rfl ?_
                refine g_cond rfl (fun h => by cases h) (fun _ => ?_)
                refine g_skip ?_
                refine g_next hK18 ?_
                refine g_seq (fun K21 hK21 => ?_)
                refine g_region ?_
                refine g_step rfl (s_val (v_move rfl) rfl rfl ?_)
                refine g_step rfl (s_val (v_not rfl) rfl rfl ?_)
                refine g_step rfl (s_val (v_move rfl) rfl rfl ?_)
                refine g_split 187 rfl (fun hg187 => ?_) (fun hg187 => ?_)
                · try simp only [decide_eq_true_eq, decide_eq_false_iff_not, Bool.not_eq_true', Bool.not_eq_false', Bool.not_eq_eq_eq_not, Bool.not_true, Bool.not_false, Bool.and_eq_true, Bool.or_eq_true, Bool.or_eq_false_iff, beq_iff_eq, beq_eq_false_iff_ne, ne_eq, Int.not_lt, Int.not_le, Decidable.not_not] at hg187
                  refine g_step_yes (j := 2) (t := 187) rfl rfl rfl rfl (s_val (v_move rfl) rfl rfl ?_)
                  refine g_step_yes (j := 2) (t := 187) rfl rfl rfl rfl (s_val (v_move rfl) rfl rfl ?_)
                  refine g_step_yes (j := 2) (t := 187) rfl rfl rfl rfl (s_val (v_bool_neq ty4 rfl rfl) rfl rfl ?_)
                  refine g_step_yes (j := 2) (t := 187) rfl rfl rfl rfl (s_val (v_move rfl) rfl rfl ?_)
                  refine g_split 191 rfl (fun hg191 => ?_) (fun hg191 => ?_)
                  · exfalso; (try simp only [decide_eq_true_eq, decide_eq_false_iff_not, Bool.not_eq_true', Bool.not_eq_false', Bool.not_eq_eq_eq_not, Bool.not_true, Bool.not_false, Bool.and_eq_true, Bool.or_eq_true, Bool.or_eq_false_iff, beq_iff_eq, beq_eq_false_iff_ne, ne_eq, Int.not_lt, Int.not_le, Decidable.not_not] at hg191); simp [hL3 hg187] at hg191
                  · try simp only [decide_eq_true_eq, decide_eq_false_iff_not, Bool.not_eq_true', Bool.not_eq_false', Bool.not_eq_eq_eq_not, Bool.not_true, Bool.not_false, Bool.and_eq_true, Bool.or_eq_true, Bool.or_eq_false_iff, beq_iff_eq, beq_eq_false_iff_ne, ne_eq, Int.not_lt, Int.not_le, Decidable.not_not] at hg191
                    refine g_step_yes (j := 6) (t := 191) rfl rfl rfl rfl (s_fieldAddr ty109 fo109_0 ty3 rfl rfl ?_)
                    refine g_step_yes (j := 6) (t := 191) rfl rfl rfl rfl (s_val (v_loadl ty3 rfl rfl rfl rfl) rfl rfl ?_)
                    refine g_step_yes (j := 6) (t := 191) rfl rfl rfl rfl (s_fieldAddr ty109 fo109_0 ty3 rfl rfl ?_)
                    refine g_step_yes (j := 6) (t := 191) rfl rfl rfl rfl (s_val (v_loadl ty3 rfl rfl rfl rfl) rfl rfl ?_)
                    refine g_step_yes (j := 6) (t := 191) rfl rfl rfl rfl (s_val (v_neq rfl rfl) rfl rfl ?_)
                    refine g_step_yes (j := 2) (t := 187) rfl rfl rfl rfl (s_val (v_pick_f rfl rfl) rfl rfl ?_)
                    refine g_step_yes (j := 2) (t := 187) rfl rfl rfl rfl (s_val (v_move rfl) rfl rfl ?_)
                    refine g_split 198 rfl (fun hg198 => ?_) (fun hg198 => ?_)
                    · exfalso; (try simp only [decide_eq_true_eq, decide_eq_false_iff_not, Bool.not_eq_true', Bool.not_eq_false', Bool.not_eq_eq_eq_not, Bool.not_true, Bool.not_false, Bool.and_eq_true, Bool.or_eq_true, Bool.or_eq_false_iff, beq_iff_eq, beq_eq_false_iff_ne, ne_eq, Int.not_lt, Int.not_le, Decidable.not_not] at hg198); simp [hL3 hg187] at hg198
                    · try simp only [decide_eq_true_eq, decide_eq_false_iff_not, Bool.not_eq_true', Bool.not_eq_false', Bool.not_eq_eq_eq_not, Bool.not_true, Bool.not_false, Bool.and_eq_true, Bool.or_eq_true, Bool.or_eq_false_iff, beq_iff_eq, beq_eq_false_iff_ne, ne_eq, Int.not_lt, Int.not_le, Decidable.not_not] at hg198
                      refine g_step_yes (j := 13) (t := 198) rfl rfl rfl rfl (s_fieldAddr ty109 fo109_1 ty107 rfl rfl ?_)
                      refine g_step_yes (j := 13) (t := 198) rfl rfl rfl rfl (s_fieldAddr ty107 fo107_0 ty3 rfl rfl ?_)
                      refine g_step_yes (j := 13) (t := 198) rfl rfl rfl rfl (s_val (v_loadl ty3 rfl rfl rfl rfl) rfl rfl ?_)
                      refine g_step_yes (j := 13) (t := 198) rfl rfl rfl rfl (s_fieldAddr ty109 fo109_1 ty107 rfl rfl ?_)
                      refine g_step_yes (j := 13) (t := 198) rfl rfl rfl rfl (s_fieldAddr ty107 fo107_0 ty3 rfl rfl ?_)
                      refine g_step_yes (j := 13) (t := 198) rfl rfl rfl rfl (s_val (v_loadl ty3 rfl rfl rfl rfl) rfl rfl ?_)
                      refine g_step_yes (j := 13) (t := 198) rfl rfl rfl rfl (s_val (v_neq rfl rfl) rfl rfl ?_)
                      refine g_step_yes (j := 2) (t := 187) rfl rfl rfl rfl (s_val (v_pick_f rfl rfl) rfl rfl ?_)
                      refine g_step_yes (j := 2) (t := 187) rfl rfl rfl rfl (s_val (v_move rfl) rfl rfl ?_)
                      refine g_split 207 rfl (fun hg207 => ?_) (fun hg207 => ?_)
                      · exfalso; (try simp only [decide_eq_true_eq, decide_eq_false_iff_not, Bool.not_eq_true', Bool.not_eq_false', Bool.not_eq_eq_eq_not, Bool.not_true, Bool.not_false, Bool.and_eq_true, Bool.or_eq_true, Bool.or_eq_false_iff, beq_iff_eq, beq_eq_false_iff_ne, ne_eq, Int.not_lt, Int.not_le, Decidable.not_not] at hg207); simp [hL3 hg187] at hg207
                      · try simp only [decide_eq_true_eq, decide_eq_false_iff_not, Bool.not_eq_true', Bool.not_eq_false', Bool.not_eq_eq_eq_not, Bool.not_true, Bool.not_false, Bool.and_eq_true, Bool.or_eq_true, Bool.or_eq_false_iff, beq_iff_eq, beq_eq_false_iff_ne, ne_eq, Int.not_lt, Int.not_le, Decidable.not_not] at hg207
                        refine g_step_yes (j := 22) (t := 207) rfl rfl rfl rfl (s_fieldAddr ty109 fo109_1 ty107 rfl rfl ?_)
                        refine g_step_yes (j := 22) (t := 207) rfl rfl rfl rfl (s_fieldAddr ty107 fo107_1 ty3 rfl rfl ?_)
                        refine g_step_yes (j := 22) (t := 207) rfl rfl rfl rfl (s_val (v_loadl ty3 rfl rfl rfl rfl) rfl rfl ?_)
                        refine g_step_yes (j := 22) (t := 207) rfl rfl rfl rfl (s_fieldAddr ty109 fo109_1 ty107 rfl rfl ?_)
                        refine g_step_yes (j := 22) (t := 207) rfl rfl rfl rfl (s_fieldAddr ty107 fo107_1 ty3 rfl rfl ?_)
                        refine g_step_yes (j := 22) (t := 207) rfl rfl rfl rfl (s_val (v_loadl ty3 rfl rfl rfl rfl) rfl rfl ?_)
                        refine g_step_yes (j := 22) (t := 207) rfl rfl rfl rfl (s_val (v_neq rfl rfl) rfl rfl ?_)
                        refine g_step_yes (j := 2) (t := 187) rfl rfl rfl rfl (s_val (v_pick_f rfl rfl) rfl rfl ?_)
                        refine g_step rfl (s_val (v_pick_t rfl rfl) rfl rfl ?_)
                        refine g_nil ?_
                        refine g_next hK21 ?_
                        first | refine g_keep [0, 1, 5, 6, 7, 8, 216] [] [] (keep_cons rfl (keep_cons rfl (keep_cons rfl (keep_cons rfl (keep_cons rfl (keep_cons rfl (keep_cons rfl keep_nil))))))) lkeep_nil keep_nil rfl ?_ | refine g_keep [0, 1, 5, 6, 7, 8, 216] [] [] rfl rfl rfl rfl ?_
                        refine g_cond rfl (fun hc216 => ?_) (fun hc216 => ?_)
                        · exfalso; (try simp only [decide_eq_true_eq, decide_eq_false_iff_not, Bool.not_eq_true', Bool.not_eq_false', Bool.not_eq_eq_eq_not, Bool.not_true, Bool.not_false, Bool.and_eq_true, Bool.or_eq_true, Bool.or_eq_false_iff, beq_iff_eq, beq_eq_false_iff_ne, ne_eq, Int.not_lt, Int.not_le, Decidable.not_not] at hc216); simp [hL3 hg187] at hc216
                        · try simp only [decide_eq_true_eq, decide_eq_false_iff_not, Bool.not_eq_true', Bool.not_eq_false', Bool.not_eq_eq_eq_not, Bool.not_true, Bool.not_false, Bool.and_eq_true, Bool.or_eq_true, Bool.or_eq_false_iff, beq_iff_eq, beq_eq_false_iff_ne, ne_eq, Int.not_lt, Int.not_le, Decidable.not_not] at hc216
                          refine g_skip ?_
                          refine g_block_normal ?_
                          refine g_next hK11 ?_
                          refine g_region ?_
                          refine g_step rfl (s_val (v_move rfl) rfl rfl ?_)
                          refine g_step rfl (s_val (v_add rfl rfl (by omega)) rfl rfl ?_)
                          refine g_step rfl (s_val (v_assign rfl) rfl rfl ?_)
                          refine g_nil ?_
                          first | refine g_keep [0, 1, 5, 6, 7, 8] [] [] (keep_cons rfl (keep_cons rfl (keep_cons rfl (keep_cons rfl (keep_cons rfl (keep_cons rfl keep_nil)))))) lkeep_nil keep_nil rfl ?_ | refine g_keep [0, 1, 5, 6, 7, 8] [] [] rfl rfl rfl rfl ?_
                          exact g_round _ (by omega) ⟨k + 1, B1, a2, av8, by omega, rfl, rfl, rfl, rfl, ⟨by rw [bookOf_take hx]; exact hown8, by rw [bookOf_take hx]; exact hat2, hb1p, by rw [bookOf_take hx]; exact hb1r, hs_B1⟩⟩
                · try simp only [decide_eq_true_eq, decide_eq_false_iff_not, Bool.not_eq_true', Bool.not_eq_false', Bool.not_eq_eq_eq_not, Bool.not_true, Bool.not_false, Bool.and_eq_true, Bool.or_eq_true, Bool.or_eq_false_iff, beq_iff_eq, beq_eq_false_iff_ne, ne_eq, Int.not_lt, Int.not_le, Decidable.not_not] at hg187
                  refine g_step_no (j := 2) (t := 187) rfl rfl rfl rfl rfl rfl rfl ?_
                  refine g_step_no (j := 2) (t := 187) rfl rfl rfl rfl rfl rfl rfl ?_
                  refine g_step_no (j := 2) (t := 187) rfl rfl rfl rfl rfl rfl rfl ?_
                  refine g_step_no (j := 2) (t := 187) rfl rfl rfl rfl rfl rfl rfl ?_
                  refine g_step_und (j := 6) (t := 191) rfl rfl rfl rfl rfl rfl ?_
                  refine g_step_und (j := 6) (t := 191) rfl rfl rfl rfl rfl rfl ?_
                  refine g_step_und (j := 6) (t := 191) rfl rfl rfl rfl rfl rfl ?_
                  refine g_step_und (j := 6) (t := 191) rfl rfl rfl rfl rfl rfl ?_
                  refine g_step_und (j := 6) (t := 191) rfl rfl rfl rfl rfl rfl ?_
                  refine g_step_no (j := 2) (t := 187) rfl rfl rfl rfl rfl rfl rfl ?_
                  refine g_step_no (j := 2) (t := 187) rfl rfl rfl rfl rfl rfl rfl ?_
                  refine g_step_und (j := 13) (t := 198) rfl rfl rfl rfl rfl rfl ?_
                  refine g_step_und (j := 13) (t := 198) rfl rfl rfl rfl rfl rfl ?_
                  refine g_step_und (j := 13) (t := 198) rfl rfl rfl rfl rfl rfl ?_
                  refine g_step_und (j := 13) (t := 198) rfl rfl rfl rfl rfl rfl ?_
                  refine g_step_und (j := 13) (t := 198) rfl rfl rfl rfl rfl rfl ?_
                  refine g_step_und (j := 13) (t := 198) rfl rfl rfl rfl rfl rfl ?_
                  refine g_step_und (j := 13) (t := 198) rfl rfl rfl rfl rfl rfl ?_
                  refine g_step_no (j := 2) (t := 187) rfl rfl rfl rfl rfl rfl rfl ?_
                  refine g_step_no (j := 2) (t := 187) rfl rfl rfl rfl rfl rfl rfl ?_
                  refine g_step_und (j := 22) (t := 207) rfl rfl rfl rfl rfl rfl ?_
                  refine g_step_und (j := 22) (t := 207) rfl rfl rfl rfl rfl rfl ?_
                  refine g_step_und (j := 22) (t := 207) rfl rfl rfl rfl rfl rfl ?_
                  refine g_step_und (j := 22) (t := 207) rfl rfl rfl rfl rfl rfl ?_
                  refine g_step_und (j := 22) (t := 207) rfl rfl rfl rfl rfl rfl ?_
                  refine g_step_und (j := 22) (t := 207) rfl rfl rfl rfl rfl rfl ?_
                  refine g_step_und (j := 22) (t := 207) rfl rfl rfl rfl rfl rfl ?_
                  refine g_step_no (j := 2) (t := 187) rfl rfl rfl rfl rfl rfl rfl ?_
                  refine g_step rfl (s_val (v_pick_f rfl rfl) rfl rfl ?_)
                  refine g_nil ?_
                  refine g_next hK21 ?_
                  first | refine g_keep [0, 1, 5, 6, 7, 8, 216] [] [] (keep_cons rfl (keep_cons rfl (keep_cons rfl (keep_cons rfl (keep_cons rfl (keep_cons rfl (keep_cons rfl keep_nil))))))) lkeep_nil keep_nil rfl ?_ | refine g_keep [0, 1, 5, 6, 7, 8, 216] [] [] rfl rfl rfl rfl ?_
                  refine g_cond rfl (fun h => by cases h) (fun _ => ?_)
                  refine g_skip ?_
                  refine g_block_normal ?_
                  refine g_next hK11 ?_
                  refine g_region ?_
                  refine g_step rfl (s_val (v_move rfl) rfl rfl ?_)
                  refine g_step rfl (s_val (v_add rfl rfl (by omega)) rfl rfl ?_)
                  refine g_step rfl (s_val (v_assign rfl) rfl rfl ?_)
                  refine g_nil ?_
                  first | refine g_keep [0, 1, 5, 6, 7, 8] [] [] (keep_cons rfl (keep_cons rfl (keep_cons rfl (keep_cons rfl (keep_cons rfl (keep_cons rfl keep_nil)))))) lkeep_nil keep_nil rfl ?_ | refine g_keep [0, 1, 5, 6, 7, 8] [] [] rfl rfl rfl rfl ?_
                  exact g_round _ (by omega) ⟨k + 1, B1, a2, av8, by omega, rfl, rfl, rfl, rfl, ⟨by rw [bookOf_take hx]; exact hown8, by rw [bookOf_take hx]; exact hat2, hb1p, by rw [bookOf_take hx]; exact hb1r, hs_B1⟩⟩
    · try simp only [decide_eq_true_eq, decide_eq_false_iff_not, Bool.not_eq_true', Bool.not_eq_false', Bool.not_eq_eq_eq_not, Bool.not_true, Bool.not_false, Bool.and_eq_true, Bool.or_eq_true, Bool.or_eq_false_iff, beq_iff_eq, beq_eq_false_iff_ne, ne_eq, Int.not_lt, Int.not_le, Decidable.not_not] at hc28
      obtain rfl : k = l.length := by omega
      refine g_exit ?_
      refine g_then_exit ?_
      refine g_then_exit ?_
      refine g_block_same ?_
      refine g_next hK7 ?_
      refine g_seq (fun K22 hK22 => ?_)
      refine g_region ?_
      rw [List.take_length] at hown hat hbr hq_G_r
      have hml : (bookOf l).length ≤ 40 := Nat.le_trans (bookOf_length _) (by omega)
      have hnd := bookOf_nodup l
      obtain ⟨Gz, hGz⟩ : ∃ Gz, Gz = G := ⟨_, rfl⟩
      rcases hat with ⟨rfl, hgn⟩ | ⟨j, y, rfl, hy, hgs⟩
      · skip
        refine g_step rfl (s_val (v_move rfl) rfl rfl ?_)
        refine g_step rfl (s_val (v_move rfl) rfl rfl ?_)
        refine g_step rfl (s_callp rfl rfl rfl (peersGet_ok p r (bookOf l) _ hq_G_p hq_G_r id) ?_)
        rintro _ rfl
        rw [show (pget (bookOf l) id).isSome = false by rw [hgn]; rfl, show lookPe (bookOf l) id = ⟨0, ⟨0, 0⟩⟩ by rw [lookPe, hgn]; rfl]
        refine g_step rfl (s_val (v_move rfl) rfl rfl ?_)
        refine g_step rfl (s_val (v_extract rfl rfl) rfl rfl ?_)
        refine g_step rfl (s_val (v_extract rfl rfl) rfl rfl ?_)
        refine g_step rfl (s_alloc (av := (.agg [(.int .i64 0), (.int .i64 0), (.int .i64 0)])) ty109 rfl rfl rfl rfl ?_)
        refine g_step rfl (s_store_all ty109 rfl rfl rfl rfl rfl rfl ?_)
        refine g_step rfl (s_val (v_assign rfl) rfl rfl ?_)
        refine g_nil ?_
        refine g_next hK22 ?_
        refine g_cut (fun env L B G => env = [(5, .box p 0), (7, av7)] ∧ L = [] ∧ B = [] ∧ Gz = G) ?_ (fun env L B G hI => ?_)
        · skip
          refine g_seq (fun K23 hK23 => ?_)
          refine g_draw (n := 62) (fun j => !([] : List Nat).contains j) rfl rfl ?_
          refine m_take 0 false rfl rfl (by kernel_rfl) (by kernel_rfl) (by kernel_rfl) (fun _ _ _ _ h => h) (v_move rfl) rfl rfl ?_
          refine m_take 1 false rfl rfl (by kernel_rfl) (by kernel_rfl) (by kernel_rfl) (fun _ _ _ _ h => h) (v_move rfl) rfl rfl ?_
          refine m_take 2 false rfl rfl (by kernel_rfl) (by kernel_rfl) (by kernel_rfl) (fun _ _ _ _ h => h) (v_geq rfl rfl) rfl rfl ?_
          refine m_take 3 false rfl rfl (by kernel_rfl) (by kernel_rfl) (by kernel_rfl) (fun _ _ _ _ h => h) (v_bool_neq ty4 rfl rfl) rfl rfl ?_
          refine m_take 4 false rfl rfl (by kernel_rfl) (by kernel_rfl) (by kernel_rfl) (fun _ _ _ _ h => h) (v_move rfl) rfl rfl ?_
          refine m_split 227 rfl (fun hg227 => ?_) (fun hg227 => ?_)
          · exfalso; (try simp only [decide_eq_true_eq, decide_eq_false_iff_not, Bool.not_eq_true', Bool.not_eq_false', Bool.not_eq_eq_eq_not, Bool.not_true, Bool.not_false, Bool.and_eq_true, Bool.or_eq_true, Bool.or_eq_false_iff, beq_iff_eq, beq_eq_false_iff_ne, ne_eq, Int.not_lt, Int.not_le, Decidable.not_not] at hg227); revert hg227; decide
          · try simp only [decide_eq_true_eq, decide_eq_false_iff_not, Bool.not_eq_true', Bool.not_eq_false', Bool.not_eq_eq_eq_not, Bool.not_true, Bool.not_false, Bool.and_eq_true, Bool.or_eq_true, Bool.or_eq_false_iff, beq_iff_eq, beq_eq_false_iff_ne, ne_eq, Int.not_lt, Int.not_le, Decidable.not_not] at hg227
            refine m_take_yes (j := 4) (t := 227) 5 false rfl rfl rfl rfl rfl (by kernel_rfl) (by kernel_rfl) (by kernel_rfl) (fun _ _ _ _ h => h) (v_move rfl) rfl rfl ?_
            refine m_take_yes (j := 4) (t := 227) 6 false rfl rfl rfl rfl rfl (by kernel_rfl) (by kernel_rfl) (by kernel_rfl) (fun _ _ _ _ h => h) (v_move rfl) rfl rfl ?_
            refine m_split 229 rfl (fun hg229 => ?_) (fun hg229 => ?_)
            · exfalso; (try simp only [decide_eq_true_eq, decide_eq_false_iff_not, Bool.not_eq_true', Bool.not_eq_false', Bool.not_eq_eq_eq_not, Bool.not_true, Bool.not_false, Bool.and_eq_true, Bool.or_eq_true, Bool.or_eq_false_iff, beq_iff_eq, beq_eq_false_iff_ne, ne_eq, Int.not_lt, Int.not_le, Decidable.not_not] at hg229); simp at hg229
            · try simp only [decide_eq_true_eq, decide_eq_false_iff_not, Bool.not_eq_true', Bool.not_eq_false', Bool.not_eq_eq_eq_not, Bool.not_true, Bool.not_false, Bool.and_eq_true, Bool.or_eq_true, Bool.or_eq_false_iff, beq_iff_eq, beq_eq_false_iff_ne, ne_eq, Int.not_lt, Int.not_le, Decidable.not_not] at hg229
              refine m_take_no (j := 6) (t := 229) 7 rfl rfl rfl rfl rfl rfl (by kernel_rfl) (by kernel_rfl) (by kernel_rfl) (fun _ _ _ _ h => h) rfl rfl ?_
              refine m_take_no (j := 6) (t := 229) 8 rfl rfl rfl rfl rfl rfl (by kernel_rfl) (by kernel_rfl) (by kernel_rfl) (fun _ _ _ _ h => h) rfl rfl ?_
              refine m_take_no (j := 6) (t := 229) 9 rfl rfl rfl rfl rfl rfl (by kernel_rfl) (by kernel_rfl) (by kernel_rfl) (fun _ _ _ _ h => h) rfl rfl ?_
              refine m_take_no (j := 6) (t := 229) 10 rfl rfl rfl rfl rfl rfl (by kernel_rfl) (by kernel_rfl) (by kernel_rfl) (fun _ _ _ _ h => h) rfl rfl ?_
              refine m_take_no (j := 6) (t := 229) 11 rfl rfl rfl rfl rfl rfl (by kernel_rfl) (by kernel_rfl) (by kernel_rfl) (fun _ _ _ _ h => h) rfl rfl ?_
              refine m_take_no (j := 6) (t := 229) 12 rfl rfl rfl rfl rfl rfl (by kernel_rfl) (by kernel_rfl) (by kernel_rfl) (fun _ _ _ _ h => h) rfl rfl ?_
              refine m_take_no (j := 6) (t := 229) 13 rfl rfl rfl rfl rfl rfl (by kernel_rfl) (by kernel_rfl) (by kernel_rfl) (fun _ _ _ _ h => h) rfl rfl ?_
              refine m_take_no (j := 6) (t := 229) 14 rfl rfl rfl rfl rfl rfl (by kernel_rfl) (by kernel_rfl) (by kernel_rfl) (fun _ _ _ _ h => h) rfl rfl ?_
              refine m_take_no (j := 6) (t := 229) 15 rfl rfl rfl rfl rfl rfl (by kernel_rfl) (by kernel_rfl) (by kernel_rfl) (fun _ _ _ _ h => h) rfl rfl ?_
              refine m_take_und (j := 15) (t := 238) 16 rfl rfl rfl rfl rfl (by kernel_rfl) (by kernel_rfl) (by kernel_rfl) (fun _ _ _ _ h => h) rfl rfl ?_
              refine m_take_und (j := 15) (t := 238) 17 rfl rfl rfl rfl rfl (by kernel_rfl) (by kernel_rfl) (by kernel_rfl) (fun _ _ _ _ h => h) rfl rfl ?_
              refine m_take_und (j := 15) (t := 238) 18 rfl rfl rfl rfl rfl (by kernel_rfl) (by kernel_rfl) (by kernel_rfl) (fun _ _ _ _ h => h) rfl rfl ?_
              refine m_take_und (j := 15) (t := 238) 19 rfl rfl rfl rfl rfl (by kernel_rfl) (by kernel_rfl) (by kernel_rfl) (fun _ _ _ _ h => h) rfl rfl ?_
              refine m_take_und (j := 15) (t := 238) 20 rfl rfl rfl rfl rfl (by kernel_rfl) (by kernel_rfl) (by kernel_rfl) (fun _ _ _ _ h => h) rfl rfl ?_
              refine m_take_und (j := 15) (t := 238) 21 rfl rfl rfl rfl rfl (by kernel_rfl) (by kernel_rfl) (by kernel_rfl) (fun _ _ _ _ h => h) rfl rfl ?_
              refine m_take_und (j := 15) (t := 238) 22 rfl rfl rfl rfl rfl (by kernel_rfl) (by kernel_rfl) (by kernel_rfl) (fun _ _ _ _ h => h) rfl rfl ?_
              refine m_take_und (j := 15) (t := 238) 23 rfl rfl rfl rfl rfl (by kernel_rfl) (by kernel_rfl) (by kernel_rfl) (fun _ _ _ _ h => h) rfl rfl ?_
              refine m_take_und (j := 15) (t := 238) 24 rfl rfl rfl rfl rfl (by kernel_rfl) (by kernel_rfl) (by kernel_rfl) (fun _ _ _ _ h => h) rfl rfl ?_
              refine m_take_und (j := 15) (t := 238) 25 rfl rfl rfl rfl rfl (by kernel_rfl) (by kernel_rfl) (by kernel_rfl) (fun _ _ _ _ h => h) rfl rfl ?_
              refine m_take_no (j := 6) (t := 229) 26 rfl rfl rfl rfl rfl rfl (by kernel_rfl) (by kernel_rfl) (by kernel_rfl) (fun _ _ _ _ h => h) rfl rfl ?_
              refine m_take_no (j := 6) (t := 229) 27 rfl rfl rfl rfl rfl rfl (by kernel_rfl) (by kernel_rfl) (by kernel_rfl) (fun _ _ _ _ h => h) rfl rfl ?_
              refine m_take_und (j := 27) (t := 250) 28 rfl rfl rfl rfl rfl (by kernel_rfl) (by kernel_rfl) (by kernel_rfl) (fun _ _ _ _ h => h) rfl rfl ?_
              refine m_take_und (j := 27) (t := 250) 29 rfl rfl rfl rfl rfl (by kernel_rfl) (by kernel_rfl) (by kernel_rfl) (fun _ _ _ _ h => h) rfl rfl ?_
              refine m_take_und (j := 27) (t := 250) 30 rfl rfl rfl rfl rfl (by kernel_rfl) (by kernel_rfl) (by kernel_rfl) (fun _ _ _ _ h => h) rfl rfl ?_
              refine m_take_und (j := 27) (t := 250) 31 rfl rfl rfl rfl rfl (by kernel_rfl) (by kernel_rfl) (by kernel_rfl) (fun _ _ _ _ h => h) rfl rfl ?_
              refine m_take_und (j := 27) (t := 250) 32 rfl rfl rfl rfl rfl (by kernel_rfl) (by kernel_rfl) (by kernel_rfl) (fun _ _ _ _ h => h) rfl rfl ?_
              refine m_take_und (j := 27) (t := 250) 33 rfl rfl rfl rfl rfl (by kernel_rfl) (by kernel_rfl) (by kernel_rfl) (fun _ _ _ _ h => h) rfl rfl ?_
              refine m_take_und (j := 27) (t := 250) 34 rfl rfl rfl rfl rfl (by kernel_rfl) (by kernel_rfl) (by kernel_rfl) (fun _ _ _ _ h => h) rfl rfl ?_
              refine m_take_und (j := 27) (t := 250) 35 rfl rfl rfl rfl rfl (by kernel_rfl) (by kernel_rfl) (by kernel_rfl) (fun _ _ _ _ h => h) rfl rfl ?_
              refine m_take_und (j := 27) (t := 250) 36 rfl rfl rfl rfl rfl (by kernel_rfl) (by kernel_rfl) (by kernel_rfl) (fun _ _ _ _ h => h) rfl rfl ?_
              refine m_take_und (j := 27) (t := 250) 37 rfl rfl rfl rfl rfl (by kernel_rfl) (by kernel_rfl) (by kernel_rfl) (fun _ _ _ _ h => h) rfl rfl ?_
              refine m_take_no (j := 6) (t := 229) 38 rfl rfl rfl rfl rfl rfl (by kernel_rfl) (by kernel_rfl) (by kernel_rfl) (fun _ _ _ _ h => h) rfl rfl ?_
              refine m_take_yes (j := 4) (t := 227) 39 false rfl rfl rfl rfl rfl (by kernel_rfl) (by kernel_rfl) (by kernel_rfl) (fun _ _ _ _ h => h) (v_pick_f rfl rfl) rfl rfl ?_
              refine m_take 40 false rfl rfl (by kernel_rfl) (by kernel_rfl) (by kernel_rfl) (fun _ _ _ _ h => h) (v_pick_f rfl rfl) rfl rfl ?_
              refine m_take 41 false rfl rfl (by kernel_rfl) (by kernel_rfl) (by kernel_rfl) (fun _ _ _ _ h => h) (v_move rfl) rfl rfl ?_
              refine m_take_yes (j := 41) (t := 264) 42 false rfl rfl rfl rfl rfl (by kernel_rfl) (by kernel_rfl) (by kernel_rfl) (fun _ _ _ _ h => h) (v_move rfl) rfl rfl ?_
              refine m_take_yes (j := 41) (t := 264) 43 false rfl rfl rfl rfl rfl (by kernel_rfl) (by kernel_rfl) (by kernel_rfl) (fun _ _ _ _ h => h) (v_not rfl) rfl rfl ?_
              refine m_take_yes (j := 41) (t := 264) 44 false rfl rfl rfl rfl rfl (by kernel_rfl) (by kernel_rfl) (by kernel_rfl) (fun _ _ _ _ h => h) (v_move rfl) rfl rfl ?_
              refine m_split 267 rfl (fun hg267 => ?_) (fun hg267 => ?_)
              · try simp only [decide_eq_true_eq, decide_eq_false_iff_not, Bool.not_eq_true', Bool.not_eq_false', Bool.not_eq_eq_eq_not, Bool.not_true, Bool.not_false, Bool.and_eq_true, Bool.or_eq_true, Bool.or_eq_false_iff, beq_iff_eq, beq_eq_false_iff_ne, ne_eq, Int.not_lt, Int.not_le, Decidable.not_not] at hg267
                refine m_takel_yes (j := 44) (t := 267) 45 rfl rfl rfl rfl rfl (by kernel_rfl) (by kernel_rfl) (by kernel_rfl) (fun _ _ _ _ h => h) (vl_fieldAddr ty109 fo109_0 ty3 rfl) rfl rfl ?_
                refine m_take_yes (j := 44) (t := 267) 46 true rfl rfl rfl rfl rfl (by kernel_rfl) (by kernel_rfl) (by kernel_rfl) (fun _ _ _ _ h => h) (v_loadl ty3 rfl rfl rfl rfl) rfl rfl ?_
                refine m_take_yes (j := 44) (t := 267) 47 false rfl rfl rfl rfl rfl (by kernel_rfl) (by kernel_rfl) (by kernel_rfl) (fun _ _ _ _ h => h) (v_neq rfl rfl) rfl rfl ?_
                refine m_take_yes (j := 44) (t := 267) 48 false rfl rfl rfl rfl rfl (by kernel_rfl) (by kernel_rfl) (by kernel_rfl) (fun _ _ _ _ h => h) (v_move rfl) rfl rfl ?_
                refine m_split 271 rfl (fun hg271 => ?_) (fun hg271 => ?_)
                · exfalso; (try simp only [decide_eq_true_eq, decide_eq_false_iff_not, Bool.not_eq_true', Bool.not_eq_false', Bool.not_eq_eq_eq_not, Bool.not_true, Bool.not_false, Bool.and_eq_true, Bool.or_eq_true, Bool.or_eq_false_iff, beq_iff_eq, beq_eq_false_iff_ne, ne_eq, Int.not_lt, Int.not_le, Decidable.not_not] at hg271); simp at hg271
                · try simp only [decide_eq_true_eq, decide_eq_false_iff_not, Bool.not_eq_true', Bool.not_eq_false', Bool.not_eq_eq_eq_not, Bool.not_true, Bool.not_false, Bool.and_eq_true, Bool.or_eq_true, Bool.or_eq_false_iff, beq_iff_eq, beq_eq_false_iff_ne, ne_eq, Int.not_lt, Int.not_le, Decidable.not_not] at hg271
                  refine m_takel_yes (j := 48) (t := 271) 49 rfl rfl rfl rfl rfl (by kernel_rfl) (by kernel_rfl) (by kernel_rfl) (fun _ _ _ _ h => h) (vl_fieldAddr ty109 fo109_1 ty107 rfl) rfl rfl ?_
                  refine m_takel_yes (j := 48) (t := 271) 50 rfl rfl rfl rfl rfl (by kernel_rfl) (by kernel_rfl) (by kernel_rfl) (fun _ _ _ _ h => h) (vl_fieldAddr ty107 fo107_0 ty3 rfl) rfl rfl ?_
                  refine m_take_yes (j := 48) (t := 271) 51 true rfl rfl rfl rfl rfl (by kernel_rfl) (by kernel_rfl) (by kernel_rfl) (fun _ _ _ _ h => h) (v_loadl ty3 rfl rfl rfl rfl) rfl rfl ?_
                  refine m_take_yes (j := 48) (t := 271) 52 false rfl rfl rfl rfl rfl (by kernel_rfl) (by kernel_rfl) (by kernel_rfl) (fun _ _ _ _ h => h) (v_neq rfl rfl) rfl rfl ?_
                  refine m_take_yes (j := 44) (t := 267) 53 false rfl rfl rfl rfl rfl (by kernel_rfl) (by kernel_rfl) (by kernel_rfl) (fun _ _ _ _ h => h) (v_pick_f rfl rfl) rfl rfl ?_
                  refine m_take_yes (j := 44) (t := 267) 54 false rfl rfl rfl rfl rfl (by kernel_rfl) (by kernel_rfl) (by kernel_rfl) (fun _ _ _ _ h => h) (v_move rfl) rfl rfl ?_
                  refine m_split 277 rfl (fun hg277 => ?_) (fun hg277 => ?_)
                  · exfalso; (try simp only [decide_eq_true_eq, decide_eq_false_iff_not, Bool.not_eq_true', Bool.not_eq_false', Bool.not_eq_eq_eq_not, Bool.not_true, Bool.not_false, Bool.and_eq_true, Bool.or_eq_true, Bool.or_eq_false_iff, beq_iff_eq, beq_eq_false_iff_ne, ne_eq, Int.not_lt, Int.not_le, Decidable.not_not] at hg277); simp at hg277
                  · try simp only [decide_eq_true_eq, decide_eq_false_iff_not, Bool.not_eq_true', Bool.not_eq_false', Bool.not_eq_eq_eq_not, Bool.not_true, Bool.not_false, Bool.and_eq_true, Bool.or_eq_true, Bool.or_eq_false_iff, beq_iff_eq, beq_eq_false_iff_ne, ne_eq, Int.not_lt, Int.not_le, Decidable.not_not] at hg277
                    refine m_takel_yes (j := 54) (t := 277) 55 rfl rfl rfl rfl rfl (by kernel_rfl) (by kernel_rfl) (by kernel_rfl) (fun _ _ _ _ h => h) (vl_fieldAddr ty109 fo109_1 ty107 rfl) rfl rfl ?_
                    refine m_takel_yes (j := 54) (t := 277) 56 rfl rfl rfl rfl rfl (by kernel_rfl) (by kernel_rfl) (by kernel_rfl) (fun _ _ _ _ h => h) (vl_fieldAddr ty107 fo107_1 ty3 rfl) rfl rfl ?_
                    refine m_take_yes (j := 54) (t := 277) 57 true rfl rfl rfl rfl rfl (by kernel_rfl) (by kernel_rfl) (by kernel_rfl) (fun _ _ _ _ h => h) (v_loadl ty3 rfl rfl rfl rfl) rfl rfl ?_
                    refine m_take_yes (j := 54) (t := 277) 58 false rfl rfl rfl rfl rfl (by kernel_rfl) (by kernel_rfl) (by kernel_rfl) (fun _ _ _ _ h => h) (v_neq rfl rfl) rfl rfl ?_
                    refine m_take_yes (j := 44) (t := 267) 59 false rfl rfl rfl rfl rfl (by kernel_rfl) (by kernel_rfl) (by kernel_rfl) (fun _ _ _ _ h => h) (v_pick_f rfl rfl) rfl rfl ?_
                    refine m_take_yes (j := 41) (t := 264) 60 false rfl rfl rfl rfl rfl (by kernel_rfl) (by kernel_rfl) (by kernel_rfl) (fun _ _ _ _ h => h) (v_pick_t rfl rfl) rfl rfl ?_
                    refine m_take 61 false rfl rfl (by kernel_rfl) (by kernel_rfl) (by kernel_rfl) (fun _ _ _ _ h => h) (v_pick_f rfl rfl) rfl rfl ?_
                    refine m_done (by kernel_rfl) ?_
                    refine g_next hK23 ?_
                    first | refine g_keep [5, 7, 284] [] [] (keep_cons rfl (keep_cons rfl (keep_cons rfl keep_nil))) lkeep_nil keep_nil rfl ?_ | refine g_keep [5, 7, 284] [] [] rfl rfl rfl rfl ?_
                    refine g_cond rfl (fun hc284 => ?_) (fun hc284 => ?_)
                    · exfalso; (try simp only [decide_eq_true_eq, decide_eq_false_iff_not, Bool.not_eq_true', Bool.not_eq_false', Bool.not_eq_eq_eq_not, Bool.not_true, Bool.not_false, Bool.and_eq_true, Bool.or_eq_true, Bool.or_eq_false_iff, beq_iff_eq, beq_eq_false_iff_ne, ne_eq, Int.not_lt, Int.not_le, Decidable.not_not] at hc284); simp at hc284
                    · try simp only [decide_eq_true_eq, decide_eq_false_iff_not, Bool.not_eq_true', Bool.not_eq_false', Bool.not_eq_eq_eq_not, Bool.not_true, Bool.not_false, Bool.and_eq_true, Bool.or_eq_true, Bool.or_eq_false_iff, beq_iff_eq, beq_eq_false_iff_ne, ne_eq, Int.not_lt, Int.not_le, Decidable.not_not] at hc284
                      refine g_skip ?_
                      first | refine g_keep [5, 7] [] [] (keep_cons rfl (keep_cons rfl keep_nil)) lkeep_nil keep_nil rfl ?_ | refine g_keep [5, 7] [] [] rfl rfl rfl rfl ?_
                      exact g_has ⟨rfl, rfl, rfl, hGz⟩
              · exfalso; (try simp only [decide_eq_true_eq, decide_eq_false_iff_not, Bool.not_eq_true', Bool.not_eq_false', Bool.not_eq_eq_eq_not, Bool.not_true, Bool.not_false, Bool.and_eq_true, Bool.or_eq_true, Bool.or_eq_false_iff, beq_iff_eq, beq_eq_false_iff_ne, ne_eq, Int.not_lt, Int.not_le, Decidable.not_not] at hg267); simp at hg267
        · skip
          obtain ⟨rfl, rfl, rfl, rfl⟩ := hI
          subst hGz
          refine g_seq (fun K24 hK24 => ?_)
          refine g_region ?_
          refine g_step rfl (s_val (v_move rfl) rfl rfl ?_)
          refine g_step rfl (s_callp rfl rfl rfl (peersAll_ok p r (bookOf l) _ hq_G_p hq_G_r (by omega)) ?_)
          rintro _ rfl
          refine g_step rfl (s_val (v_assign rfl) rfl rfl ?_)
          refine g_nil ?_
          refine g_next hK24 ?_
          refine g_seq (fun K25 hK25 => ?_)
          refine g_seq (fun K26 hK26 => ?_)
          refine g_region ?_
          refine g_step rfl (s_val (v_assign rfl) rfl rfl ?_)
          refine g_nil ?_
          refine g_next hK26 ?_
          refine g_block ?_
          first | refine g_keep [5, 7, 16, 17] [] [] (keep_cons rfl (keep_cons rfl (keep_cons rfl (keep_cons rfl keep_nil)))) lkeep_nil keep_nil rfl ?_ | refine g_keep [5, 7, 16, 17] [] [] rfl rfl rfl rfl ?_
          refine g_loop (fun n env L B G => ∃ (k : Nat) , k ≤ (pkeys (bookOf l)).length ∧ n = (pkeys (bookOf l)).length - k ∧ env = [(5, .box p 0), (7, av7), (16, .imm ((pkeys (bookOf l)).map (.int .i64))), (17, .int .i64 (k : Int))] ∧ L = [] ∧ B = [] ∧ Gz = G) ((pkeys (bookOf l)).length) ⟨0, Nat.zero_le _, rfl, rfl, rfl, rfl, rfl⟩ (fun n env L B G hI => ?_)
          obtain ⟨k, hk, rfl, rfl, rfl, rfl, rfl⟩ := hI
          have hkl : (pkeys (bookOf l)).length ≤ 40 := by rw [pkeys_length]; exact hml
          refine g_seq (fun K27 hK27 => ?_)
          refine g_seq (fun K28 hK28 => ?_)
          refine g_region ?_
          refine g_step rfl (s_val (v_move rfl) rfl rfl ?_)
          refine g_step rfl (s_val (v_move rfl) rfl rfl ?_)
          refine g_step rfl (s_val (v_len ty41 rfl (by first | rfl | assumption) (by first | exact List.length_map .. | rfl)) rfl rfl ?_)
          refine g_step rfl (s_val (v_lss rfl rfl) rfl rfl ?_)
          refine g_nil ?_
          refine g_next hK28 ?_
          refine g_cond rfl (fun hc290 => ?_) (fun hc290 => ?_)
          · try simp only [decide_eq_true_eq, decide_eq_false_iff_not, Bool.not_eq_true', Bool.not_eq_false', Bool.not_eq_eq_eq_not, Bool.not_true, Bool.not_false, Bool.and_eq_true, Bool.or_eq_true, Bool.or_eq_false_iff, beq_iff_eq, beq_eq_false_iff_ne, ne_eq, Int.not_lt, Int.not_le, Decidable.not_not] at hc290
            obtain ⟨z, hz⟩ := get_some (l := (pkeys (bookOf l))) (k := k) (by omega)
            refine g_skip ?_
            refine g_next hK27 ?_
            refine g_seq (fun K29 hK29 => ?_)
            refine g_block ?_
            refine g_seq (fun K30 hK30 => ?_)
            refine g_region ?_
            refine g_step rfl (s_val (v_move rfl) rfl rfl ?_)
            refine g_step rfl (s_val (v_move rfl) rfl rfl ?_)
            refine g_step rfl (s_val (v_move rfl) rfl rfl ?_)
            refine g_step rfl (s_val (v_indexAddr ty41 ty3 rfl rfl (by first | rfl | assumption) (by first | rfl | exact (rfl : (0 : Int) = ((0 : Nat) : Int)) | exact (Int.toNat_of_nonneg (by omega)).symm) (by first | assumption | exact map_get (by assumption) | rfl) rfl) rfl rfl ?_)
            refine g_step rfl (s_val (by first | exact v_load ty3 rfl rfl (by first | rfl | assumption) (by first | assumption | exact map_get (by assumption) | rfl) rfl | exact v_load_box ty3 rfl rfl (by assumption) rfl) rfl rfl ?_)
            refine g_step rfl (s_callp rfl rfl rfl (peersGet_ok p r (bookOf l) _ hq_G_p hq_G_r z) ?_)
            rintro _ rfl
            rw [show (pget (bookOf l) z).isSome = true from (pkeys_mem _ _).1 (mem_get hz)]
            refine g_step rfl (s_val (v_move rfl) rfl rfl ?_)
            refine g_step rfl (s_val (v_extract rfl rfl) rfl rfl ?_)
            refine g_step rfl (s_val (v_extract rfl rfl) rfl rfl ?_)
            refine g_step rfl (s_alloc (av := (.agg [(.int .i64 0), (.int .i64 0), (.int .i64 0)])) ty109 rfl rfl rfl rfl ?_)
            refine g_step rfl (s_store_all ty109 rfl rfl rfl rfl rfl rfl ?_)
            refine g_step rfl (s_val (v_assign rfl) rfl rfl ?_)
            refine g_nil ?_
            refine g_next hK30 ?_
            refine g_seq (fun K31 hK31 => ?_)
            refine g_draw (n := 18) (fun j => !([] : List Nat).contains j) rfl rfl ?_
            refine m_take 0 false rfl rfl (by kernel_rfl) (by kernel_rfl) (by kernel_rfl) (fun _ _ _ _ h => h) (v_move rfl) rfl rfl ?_
            refine m_take 1 false rfl rfl (by kernel_rfl) (by kernel_rfl) (by kernel_rfl) (fun _ _ _ _ h => h) (v_not rfl) rfl rfl ?_
            refine m_take 2 false rfl rfl (by kernel_rfl) (by kernel_rfl) (by kernel_rfl) (fun _ _ _ _ h => h) (v_move rfl) rfl rfl ?_
            refine m_split 304 rfl (fun hg304 => ?_) (fun hg304 => ?_)
            · exfalso; (try simp only [decide_eq_true_eq, decide_eq_false_iff_not, Bool.not_eq_true', Bool.not_eq_false', Bool.not_eq_eq_eq_not, Bool.not_true, Bool.not_false, Bool.and_eq_true, Bool.or_eq_true, Bool.or_eq_false_iff, beq_iff_eq, beq_eq_false_iff_ne, ne_eq, Int.not_lt, Int.not_le, Decidable.not_not] at hg304); simp at hg304
            · try simp only [decide_eq_true_eq, decide_eq_false_iff_not, Bool.not_eq_true', Bool.not_eq_false', Bool.not_eq_eq_eq_not, Bool.not_true, Bool.not_false, Bool.and_eq_true, Bool.or_eq_true, Bool.or_eq_false_iff, beq_iff_eq, beq_eq_false_iff_ne, ne_eq, Int.not_lt, Int.not_le, Decidable.not_not] at hg304
              refine m_take_yes (j := 2) (t := 304) 3 false rfl rfl rfl rfl rfl (by kernel_rfl) (by kernel_rfl) (by kernel_rfl) (fun _ _ _ _ h => h) (v_move rfl) rfl rfl ?_
              refine m_take_yes (j := 2) (t := 304) 4 false rfl rfl rfl rfl rfl (by kernel_rfl) (by kernel_rfl) (by kernel_rfl) (fun _ _ _ _ h => h) (v_gtr rfl rfl) rfl rfl ?_
              refine m_take_yes (j := 2) (t := 304) 5 false rfl rfl rfl rfl rfl (by kernel_rfl) (by kernel_rfl) (by kernel_rfl) (fun _ _ _ _ h => h) (v_move rfl) rfl rfl ?_
              refine m_split 307 rfl (fun hg307 => ?_) (fun hg307 => ?_)
              · try simp only [decide_eq_true_eq, decide_eq_false_iff_not, Bool.not_eq_true', Bool.not_eq_false', Bool.not_eq_eq_eq_not, Bool.not_true, Bool.not_false, Bool.and_eq_true, Bool.or_eq_true, Bool.or_eq_false_iff, beq_iff_eq, beq_eq_false_iff_ne, ne_eq, Int.not_lt, Int.not_le, Decidable.not_not] at hg307
                obtain ⟨w, hw⟩ := get_some (l := pkeys (bookOf l)) (k := k - 1) (by omega)
                have hlt := pkeys_lt hnd (by omega) hw hz
                refine m_take_yes (j := 5) (t := 307) 6 false rfl rfl rfl rfl rfl (by kernel_rfl) (by kernel_rfl) (by kernel_rfl) (fun _ _ _ _ h => h) (v_move rfl) rfl rfl ?_
                refine m_take_yes (j := 5) (t := 307) 7 false rfl rfl rfl rfl rfl (by kernel_rfl) (by kernel_rfl) (by kernel_rfl) (fun _ _ _ _ h => h) (v_move rfl) rfl rfl ?_
                refine m_take_yes (j := 5) (t := 307) 8 false rfl rfl rfl rfl rfl (by kernel_rfl) (by kernel_rfl) (by kernel_rfl) (fun _ _ _ _ h => h) (v_indexAddr ty41 ty3 rfl rfl (by first | rfl | assumption) (by first | rfl | exact (rfl : (0 : Int) = ((0 : Nat) : Int)) | exact (Int.toNat_of_nonneg (by omega)).symm) (by first | assumption | exact map_get (by assumption) | rfl) rfl) rfl rfl ?_
                refine m_take_yes (j := 5) (t := 307) 9 true rfl rfl rfl rfl rfl (by kernel_rfl) (by kernel_rfl) (by kernel_rfl) (fun _ _ _ _ h => h) (by first | exact v_load ty3 rfl rfl (by first | rfl | assumption) (by first | assumption | exact map_get (by assumption) | rfl) rfl | exact v_load_box ty3 rfl rfl (by assumption) rfl) rfl rfl ?_
                refine m_take_yes (j := 5) (t := 307) 10 false rfl rfl rfl rfl rfl (by kernel_rfl) (by kernel_rfl) (by kernel_rfl) (fun _ _ _ _ h => h) (v_move rfl) rfl rfl ?_
                refine m_take_yes (j := 5) (t := 307) 11 false rfl rfl rfl rfl rfl (by kernel_rfl) (by kernel_rfl) (by kernel_rfl) (fun _ _ _ _ h => h) (v_move rfl) rfl rfl ?_
                refine m_take_yes (j := 5) (t := 307) 12 false rfl rfl rfl rfl rfl (by kernel_rfl) (by kernel_rfl) (by kernel_rfl) (fun _ _ _ _ h => h) (v_sub_ rfl rfl (by omega)) rfl rfl ?_
                refine m_take_yes (j := 5) (t := 307) 13 false rfl rfl rfl rfl rfl (by kernel_rfl) (by kernel_rfl) (by kernel_rfl) (fun _ _ _ _ h => h) (v_indexAddr ty41 ty3 rfl rfl (by first | rfl | assumption) (by omega) (map_get hw) rfl) rfl rfl ?_
                refine m_take_yes (j := 5) (t := 307) 14 true rfl rfl rfl rfl rfl (by kernel_rfl) (by kernel_rfl) (by kernel_rfl) (fun _ _ _ _ h => h) (by first | exact v_load ty3 rfl rfl (by first | rfl | assumption) (map_get hw) rfl | exact v_load_box ty3 rfl rfl (by assumption) rfl) rfl rfl ?_
                refine m_take_yes (j := 5) (t := 307) 15 false rfl rfl rfl rfl rfl (by kernel_rfl) (by kernel_rfl) (by kernel_rfl) (fun _ _ _ _ h => h) (v_leq rfl rfl) rfl rfl ?_
                refine m_take_yes (j := 2) (t := 304) 16 false rfl rfl rfl rfl rfl (by kernel_rfl) (by kernel_rfl) (by kernel_rfl) (fun _ _ _ _ h => h) (v_pick_t rfl rfl) rfl rfl ?_
                refine m_take 17 false rfl rfl (by kernel_rfl) (by kernel_rfl) (by kernel_rfl) (fun _ _ _ _ h => h) (v_pick_f rfl rfl) rfl rfl ?_
                refine m_done (by kernel_rfl) ?_
                refine g_next hK31 ?_
                first | refine g_keep [5, 7, 16, 17, 319] [] [] (keep_cons rfl (keep_cons rfl (keep_cons rfl (keep_cons rfl (keep_cons rfl keep_nil))))) lkeep_nil keep_nil rfl ?_ | refine g_keep [5, 7, 16, 17, 319] [] [] rfl rfl rfl rfl ?_
                refine g_cond rfl (fun hc319 => ?_) (fun hc319 => ?_)
                · exfalso; (try simp only [decide_eq_true_eq, decide_eq_false_iff_not, Bool.not_eq_true', Bool.not_eq_false', Bool.not_eq_eq_eq_not, Bool.not_true, Bool.not_false, Bool.and_eq_true, Bool.or_eq_true, Bool.or_eq_false_iff, beq_iff_eq, beq_eq_false_iff_ne, ne_eq, Int.not_lt, Int.not_le, Decidable.not_not] at hc319); omega
                · try simp only [decide_eq_true_eq, decide_eq_false_iff_not, Bool.not_eq_true', Bool.not_eq_false', Bool.not_eq_eq_eq_not, Bool.not_true, Bool.not_false, Bool.and_eq_true, Bool.or_eq_true, Bool.or_eq_false_iff, beq_iff_eq, beq_eq_false_iff_ne, ne_eq, Int.not_lt, Int.not_le, Decidable.not_not] at hc319
                  refine g_skip ?_
                  refine g_block_normal ?_
                  refine g_next hK29 ?_
                  refine g_region ?_
                  refine g_step rfl (s_val (v_move rfl) rfl rfl ?_)
                  refine g_step rfl (s_val (v_add rfl rfl (by omega)) rfl rfl ?_)
                  refine g_step rfl (s_val (v_assign rfl) rfl rfl ?_)
                  refine g_nil ?_
                  first | refine g_keep [5, 7, 16, 17] [] [] (keep_cons rfl (keep_cons rfl (keep_cons rfl (keep_cons rfl keep_nil)))) lkeep_nil keep_nil rfl ?_ | refine g_keep [5, 7, 16, 17] [] [] rfl rfl rfl rfl ?_
                  exact g_round _ (by omega) ⟨k + 1, by omega, rfl, rfl, rfl, rfl, rfl⟩
              · try simp only [decide_eq_true_eq, decide_eq_false_iff_not, Bool.not_eq_true', Bool.not_eq_false', Bool.not_eq_eq_eq_not, Bool.not_true, Bool.not_false, Bool.and_eq_true, Bool.or_eq_true, Bool.or_eq_false_iff, beq_iff_eq, beq_eq_false_iff_ne, ne_eq, Int.not_lt, Int.not_le, Decidable.not_not] at hg307
                refine m_take_no (j := 5) (t := 307) 6 rfl rfl rfl rfl rfl rfl (by kernel_rfl) (by kernel_rfl) (by kernel_rfl) (fun _ _ _ _ h => h) rfl rfl ?_
                refine m_take_no (j := 5) (t := 307) 7 rfl rfl rfl rfl rfl rfl (by kernel_rfl) (by kernel_rfl) (by kernel_rfl) (fun _ _ _ _ h => h) rfl rfl ?_
                refine m_take_no (j := 5) (t := 307) 8 rfl rfl rfl rfl rfl rfl (by kernel_rfl) (by kernel_rfl) (by kernel_rfl) (fun _ _ _ _ h => h) rfl rfl ?_
                refine m_take_no (j := 5) (t := 307) 9 rfl rfl rfl rfl rfl rfl (by kernel_rfl) (by kernel_rfl) (by kernel_rfl) (fun _ _ _ _ h => h) rfl rfl ?_
                refine m_take_no (j := 5) (t := 307) 10 rfl rfl rfl rfl rfl rfl (by kernel_rfl) (by kernel_rfl) (by kernel_rfl) (fun _ _ _ _ h => h) rfl rfl ?_
                refine m_take_no (j := 5) (t := 307) 11 rfl rfl rfl rfl rfl rfl (by kernel_rfl) (by kernel_rfl) (by kernel_rfl) (fun _ _ _ _ h => h) rfl rfl ?_
                refine m_take_no (j := 5) (t := 307) 12 rfl rfl rfl rfl rfl rfl (by kernel_rfl) (by kernel_rfl) (by kernel_rfl) (fun _ _ _ _ h => h) rfl rfl ?_
                refine m_take_no (j := 5) (t := 307) 13 rfl rfl rfl rfl rfl rfl (by kernel_rfl) (by kernel_rfl) (by kernel_rfl) (fun _ _ _ _ h => h) rfl rfl ?_
                refine m_take_no (j := 5) (t := 307) 14 rfl rfl rfl rfl rfl rfl (by kernel_rfl) (by kernel_rfl) (by kernel_rfl) (fun _ _ _ _ h => h) rfl rfl ?_
                refine m_take_no (j := 5) (t := 307) 15 rfl rfl rfl rfl rfl rfl (by kernel_rfl) (by kernel_rfl) (by kernel_rfl) (fun _ _ _ _ h => h) rfl rfl ?_
                refine m_take_yes (j := 2) (t := 304) 16 false rfl rfl rfl rfl rfl (by kernel_rfl) (by kernel_rfl) (by kernel_rfl) (fun _ _ _ _ h => h) (v_pick_f rfl rfl) rfl rfl ?_
                refine m_take 17 false rfl rfl (by kernel_rfl) (by kernel_rfl) (by kernel_rfl) (fun _ _ _ _ h => h) (v_pick_f rfl rfl) rfl rfl ?_
                refine m_done (by kernel_rfl) ?_
                refine g_next hK31 ?_
                first | refine g_keep [5, 7, 16, 17, 319] [] [] (keep_cons rfl (keep_cons rfl (keep_cons rfl (keep_cons rfl (keep_cons rfl keep_nil))))) lkeep_nil keep_nil rfl ?_ | refine g_keep [5, 7, 16, 17, 319] [] [] rfl rfl rfl rfl ?_
                refine g_cond rfl (fun h => by cases h) (fun _ => ?_)
                refine g_skip ?_
                refine g_block_normal ?_
                refine g_next hK29 ?_
                refine g_region ?_
                refine g_step rfl (s_val (v_move rfl) rfl rfl ?_)
                refine g_step rfl (s_val (v_add rfl rfl (by omega)) rfl rfl ?_)
                refine g_step rfl (s_val (v_assign rfl) rfl rfl ?_)
                refine g_nil ?_
                first | refine g_keep [5, 7, 16, 17] [] [] (keep_cons rfl (keep_cons rfl (keep_cons rfl (keep_cons rfl keep_nil)))) lkeep_nil keep_nil rfl ?_ | refine g_keep [5, 7, 16, 17] [] [] rfl rfl rfl rfl ?_
                exact g_round _ (by omega) ⟨k + 1, by omega, rfl, rfl, rfl, rfl, rfl⟩
          · try simp only [decide_eq_true_eq, decide_eq_false_iff_not, Bool.not_eq_true', Bool.not_eq_false', Bool.not_eq_eq_eq_not, Bool.not_true, Bool.not_false, Bool.and_eq_true, Bool.or_eq_true, Bool.or_eq_false_iff, beq_iff_eq, beq_eq_false_iff_ne, ne_eq, Int.not_lt, Int.not_le, Decidable.not_not] at hc290
            obtain rfl : k = (pkeys (bookOf l)).length := by omega
            refine g_exit ?_
            refine g_then_exit ?_
            refine g_then_exit ?_
            refine g_block_same ?_
            refine g_next hK25 ?_
            refine g_seq (fun K32 hK32 => ?_)
            refine g_region ?_
            refine g_step rfl (s_val (v_move rfl) rfl rfl ?_)
            refine g_step rfl (s_val (v_len ty41 rfl (by first | rfl | assumption) (show _ = (pkeys (bookOf l)).length by simp)) rfl rfl ?_)
            refine g_step rfl (s_val (v_move rfl) rfl rfl ?_)
            refine g_step rfl (s_val (v_len ty41 rfl hown.view (show _ = (bookOf l).length by simp)) rfl rfl ?_)
            refine g_step rfl (s_val (v_eql rfl rfl) rfl rfl ?_)
            refine g_step rfl (s_val (v_move rfl) rfl rfl ?_)
            refine g_split 325 rfl (fun hg325 => ?_) (fun hg325 => ?_)
            · try simp only [decide_eq_true_eq, decide_eq_false_iff_not, Bool.not_eq_true', Bool.not_eq_false', Bool.not_eq_eq_eq_not, Bool.not_true, Bool.not_false, Bool.and_eq_true, Bool.or_eq_true, Bool.or_eq_false_iff, beq_iff_eq, beq_eq_false_iff_ne, ne_eq, Int.not_lt, Int.not_le, Decidable.not_not] at hg325
              refine g_step_yes (j := 5) (t := 325) rfl rfl rfl rfl (s_callp rfl rfl rfl (awake23_ok _) ?_)
              rintro _ rfl
              refine g_step rfl (s_val (v_pick_t rfl rfl) rfl rfl ?_)
              refine g_step rfl (s_val (v_assign rfl) rfl rfl ?_)
              refine g_nil ?_
              refine g_next hK32 ?_
              refine g_ret ?_
              refine g_end1 (.inl rfl) Try.results10 (.tmp rfl) [] (ASub.refl _) (by first | exact AHeap.sub_trans hs_B hown.sub | exact AHeap.sub_trans hs_B1 hown8.sub | exact AHeap.sub_refl _) (fun p hp => by cases hp) ⟨rfl, ?_⟩
              rfl
            · exfalso; (try simp only [decide_eq_true_eq, decide_eq_false_iff_not, Bool.not_eq_true', Bool.not_eq_false', Bool.not_eq_eq_eq_not, Bool.not_true, Bool.not_false, Bool.and_eq_true, Bool.or_eq_true, Bool.or_eq_false_iff, beq_iff_eq, beq_eq_false_iff_ne, ne_eq, Int.not_lt, Int.not_le, Decidable.not_not] at hg325); rw [pkeys_length] at hg325; exact hg325 rfl
      · skip
        refine g_step rfl (s_val (v_move rfl) rfl rfl ?_)
        refine g_step rfl (s_val (v_move rfl) rfl rfl ?_)
        refine g_step rfl (s_callp rfl rfl rfl (peersGet_ok p r (bookOf l) _ hq_G_p hq_G_r id) ?_)
        rintro _ rfl
        rw [show (pget (bookOf l) id).isSome = true by rw [hgs]; rfl, show lookPe (bookOf l) id = ⟨y.inc, y.sp⟩ by rw [lookPe, hgs]; rfl]
        refine g_step rfl (s_val (v_move rfl) rfl rfl ?_)
        refine g_step rfl (s_val (v_extract rfl rfl) rfl rfl ?_)
        refine g_step rfl (s_val (v_extract rfl rfl) rfl rfl ?_)
        refine g_step rfl (s_alloc (av := (.agg [(.int .i64 0), (.int .i64 0), (.int .i64 0)])) ty109 rfl rfl rfl rfl ?_)
        refine g_step rfl (s_store_all ty109 rfl rfl rfl rfl rfl rfl ?_)
        refine g_step rfl (s_val (v_assign rfl) rfl rfl ?_)
        refine g_nil ?_
        refine g_next hK22 ?_
        refine g_cut (fun env L B G => env = [(5, .box p 0), (7, av7)] ∧ L = [] ∧ B = [] ∧ Gz = G) ?_ (fun env L B G hI => ?_)
        · skip
          refine g_seq (fun K33 hK33 => ?_)
          refine g_draw (n := 62) (fun j => !([] : List Nat).contains j) rfl rfl ?_
          refine m_take 0 false rfl rfl (by kernel_rfl) (by kernel_rfl) (by kernel_rfl) (fun _ _ _ _ h => h) (v_move rfl) rfl rfl ?_
          refine m_take 1 false rfl rfl (by kernel_rfl) (by kernel_rfl) (by kernel_rfl) (fun _ _ _ _ h => h) (v_move rfl) rfl rfl ?_
          refine m_take 2 false rfl rfl (by kernel_rfl) (by kernel_rfl) (by kernel_rfl) (fun _ _ _ _ h => h) (v_geq rfl rfl) rfl rfl ?_
          refine m_take 3 false rfl rfl (by kernel_rfl) (by kernel_rfl) (by kernel_rfl) (fun _ _ _ _ h => h) (v_bool_neq ty4 rfl rfl) rfl rfl ?_
          refine m_take 4 false rfl rfl (by kernel_rfl) (by kernel_rfl) (by kernel_rfl) (fun _ _ _ _ h => h) (v_move rfl) rfl rfl ?_
          refine m_split 227 rfl (fun hg227 => ?_) (fun hg227 => ?_)
          · exfalso; (try simp only [decide_eq_true_eq, decide_eq_false_iff_not, Bool.not_eq_true', Bool.not_eq_false', Bool.not_eq_eq_eq_not, Bool.not_true, Bool.not_false, Bool.and_eq_true, Bool.or_eq_true, Bool.or_eq_false_iff, beq_iff_eq, beq_eq_false_iff_ne, ne_eq, Int.not_lt, Int.not_le, Decidable.not_not] at hg227); first | (simp at hg227; done) | (simp at hg227; omega)
          · try simp only [decide_eq_true_eq, decide_eq_false_iff_not, Bool.not_eq_true', Bool.not_eq_false', Bool.not_eq_eq_eq_not, Bool.not_true, Bool.not_false, Bool.and_eq_true, Bool.or_eq_true, Bool.or_eq_false_iff, beq_iff_eq, beq_eq_false_iff_ne, ne_eq, Int.not_lt, Int.not_le, Decidable.not_not] at hg227
            refine m_take_yes (j := 4) (t := 227) 5 false rfl rfl rfl rfl rfl (by kernel_rfl) (by kernel_rfl) (by kernel_rfl) (fun _ _ _ _ h => h) (v_move rfl) rfl rfl ?_
            refine m_take_yes (j := 4) (t := 227) 6 false rfl rfl rfl rfl rfl (by kernel_rfl) (by kernel_rfl) (by kernel_rfl) (fun _ _ _ _ h => h) (v_move rfl) rfl rfl ?_
            refine m_split 229 rfl (fun hg229 => ?_) (fun hg229 => ?_)
            · try simp only [decide_eq_true_eq, decide_eq_false_iff_not, Bool.not_eq_true', Bool.not_eq_false', Bool.not_eq_eq_eq_not, Bool.not_true, Bool.not_false, Bool.and_eq_true, Bool.or_eq_true, Bool.or_eq_false_iff, beq_iff_eq, beq_eq_false_iff_ne, ne_eq, Int.not_lt, Int.not_le, Decidable.not_not] at hg229
              refine m_takel_yes (j := 6) (t := 229) 7 rfl rfl rfl rfl rfl (by kernel_rfl) (by kernel_rfl) (by kernel_rfl) (fun _ _ _ _ h => h) (vl_fieldAddr ty109 fo109_0 ty3 rfl) rfl rfl ?_
              refine m_take_yes (j := 6) (t := 229) 8 true rfl rfl rfl rfl rfl (by kernel_rfl) (by kernel_rfl) (by kernel_rfl) (fun _ _ _ _ h => h) (v_loadl ty3 rfl rfl rfl rfl) rfl rfl ?_
              refine m_take_yes (j := 6) (t := 229) 9 false rfl rfl rfl rfl rfl (by kernel_rfl) (by kernel_rfl) (by kernel_rfl) (fun _ _ _ _ h => h) (v_move rfl) rfl rfl ?_
              refine m_take_yes (j := 6) (t := 229) 10 false rfl rfl rfl rfl rfl (by kernel_rfl) (by kernel_rfl) (by kernel_rfl) (fun _ _ _ _ h => h) (v_move rfl) rfl rfl ?_
              refine m_take_yes (j := 6) (t := 229) 11 false rfl rfl rfl rfl rfl (by kernel_rfl) (by kernel_rfl) (by kernel_rfl) (fun _ _ _ _ h => h) (v_indexAddr ty103 ty113 rfl rfl (by first | rfl | assumption) (by first | rfl | exact (rfl : (0 : Int) = ((0 : Nat) : Int)) | exact (Int.toNat_of_nonneg (by omega)).symm) (map_get hy) rfl) rfl rfl ?_
              refine m_take_yes (j := 6) (t := 229) 12 false rfl rfl rfl rfl rfl (by kernel_rfl) (by kernel_rfl) (by kernel_rfl) (fun _ _ _ _ h => h) (by first | exact v_fieldAddr ty113 fo113_1 ty3 rfl | exact v_fieldAddr_box ty113 fo113_1 ty3 rfl) rfl rfl ?_
              refine m_take_yes (j := 6) (t := 229) 13 true rfl rfl rfl rfl rfl (by kernel_rfl) (by kernel_rfl) (by kernel_rfl) (fun _ _ _ _ h => h) (by first | exact v_load ty3 rfl rfl (by first | rfl | assumption) (map_get hy) rfl | exact v_load_box ty3 rfl rfl (by assumption) rfl) rfl rfl ?_
              refine m_take_yes (j := 6) (t := 229) 14 false rfl rfl rfl rfl rfl (by kernel_rfl) (by kernel_rfl) (by kernel_rfl) (fun _ _ _ _ h => h) (v_neq rfl rfl) rfl rfl ?_
              refine m_take_yes (j := 6) (t := 229) 15 false rfl rfl rfl rfl rfl (by kernel_rfl) (by kernel_rfl) (by kernel_rfl) (fun _ _ _ _ h => h) (v_move rfl) rfl rfl ?_
              refine m_split 238 rfl (fun hg238 => ?_) (fun hg238 => ?_)
              · exfalso; (try simp only [decide_eq_true_eq, decide_eq_false_iff_not, Bool.not_eq_true', Bool.not_eq_false', Bool.not_eq_eq_eq_not, Bool.not_true, Bool.not_false, Bool.and_eq_true, Bool.or_eq_true, Bool.or_eq_false_iff, beq_iff_eq, beq_eq_false_iff_ne, ne_eq, Int.not_lt, Int.not_le, Decidable.not_not] at hg238); first | exact hg238 rfl | exact hg238 trivial
              · try simp only [decide_eq_true_eq, decide_eq_false_iff_not, Bool.not_eq_true', Bool.not_eq_false', Bool.not_eq_eq_eq_not, Bool.not_true, Bool.not_false, Bool.and_eq_true, Bool.or_eq_true, Bool.or_eq_false_iff, beq_iff_eq, beq_eq_false_iff_ne, ne_eq, Int.not_lt, Int.not_le, Decidable.not_not] at hg238
                refine m_takel_yes (j := 15) (t := 238) 16 rfl rfl rfl rfl rfl (by kernel_rfl) (by kernel_rfl) (by kernel_rfl) (fun _ _ _ _ h => h) (vl_fieldAddr ty109 fo109_1 ty107 rfl) rfl rfl ?_
                refine m_takel_yes (j := 15) (t := 238) 17 rfl rfl rfl rfl rfl (by kernel_rfl) (by kernel_rfl) (by kernel_rfl) (fun _ _ _ _ h => h) (vl_fieldAddr ty107 fo107_0 ty3 rfl) rfl rfl ?_
                refine m_take_yes (j := 15) (t := 238) 18 true rfl rfl rfl rfl rfl (by kernel_rfl) (by kernel_rfl) (by kernel_rfl) (fun _ _ _ _ h => h) (v_loadl ty3 rfl rfl rfl rfl) rfl rfl ?_
                refine m_take_yes (j := 15) (t := 238) 19 false rfl rfl rfl rfl rfl (by kernel_rfl) (by kernel_rfl) (by kernel_rfl) (fun _ _ _ _ h => h) (v_move rfl) rfl rfl ?_
                refine m_take_yes (j := 15) (t := 238) 20 false rfl rfl rfl rfl rfl (by kernel_rfl) (by kernel_rfl) (by kernel_rfl) (fun _ _ _ _ h => h) (v_move rfl) rfl rfl ?_
                refine m_take_yes (j := 15) (t := 238) 21 false rfl rfl rfl rfl rfl (by kernel_rfl) (by kernel_rfl) (by kernel_rfl) (fun _ _ _ _ h => h) (v_indexAddr ty103 ty113 rfl rfl (by first | rfl | assumption) (by first | rfl | exact (rfl : (0 : Int) = ((0 : Nat) : Int)) | exact (Int.toNat_of_nonneg (by omega)).symm) (map_get hy) rfl) rfl rfl ?_
                refine m_take_yes (j := 15) (t := 238) 22 false rfl rfl rfl rfl rfl (by kernel_rfl) (by kernel_rfl) (by kernel_rfl) (fun _ _ _ _ h => h) (by first | exact v_fieldAddr ty113 fo113_2 ty107 rfl | exact v_fieldAddr_box ty113 fo113_2 ty107 rfl) rfl rfl ?_
                refine m_take_yes (j := 15) (t := 238) 23 false rfl rfl rfl rfl rfl (by kernel_rfl) (by kernel_rfl) (by kernel_rfl) (fun _ _ _ _ h => h) (by first | exact v_fieldAddr ty107 fo107_0 ty3 rfl | exact v_fieldAddr_box ty107 fo107_0 ty3 rfl) rfl rfl ?_
                refine m_take_yes (j := 15) (t := 238) 24 true rfl rfl rfl rfl rfl (by kernel_rfl) (by kernel_rfl) (by kernel_rfl) (fun _ _ _ _ h => h) (by first | exact v_load ty3 rfl rfl (by first | rfl | assumption) (map_get hy) rfl | exact v_load_box ty3 rfl rfl (by assumption) rfl) rfl rfl ?_
                refine m_take_yes (j := 15) (t := 238) 25 false rfl rfl rfl rfl rfl (by kernel_rfl) (by kernel_rfl) (by kernel_rfl) (fun _ _ _ _ h => h) (v_neq rfl rfl) rfl rfl ?_
                refine m_take_yes (j := 6) (t := 229) 26 false rfl rfl rfl rfl rfl (by kernel_rfl) (by kernel_rfl) (by kernel_rfl) (fun _ _ _ _ h => h) (v_pick_f rfl rfl) rfl rfl ?_
                refine m_take_yes (j := 6) (t := 229) 27 false rfl rfl rfl rfl rfl (by kernel_rfl) (by kernel_rfl) (by kernel_rfl) (fun _ _ _ _ h => h) (v_move rfl) rfl rfl ?_
                refine m_split 250 rfl (fun hg250 => ?_) (fun hg250 => ?_)
                · exfalso; (try simp only [decide_eq_true_eq, decide_eq_false_iff_not, Bool.not_eq_true', Bool.not_eq_false', Bool.not_eq_eq_eq_not, Bool.not_true, Bool.not_false, Bool.and_eq_true, Bool.or_eq_true, Bool.or_eq_false_iff, beq_iff_eq, beq_eq_false_iff_ne, ne_eq, Int.not_lt, Int.not_le, Decidable.not_not] at hg250); first | exact hg250 rfl | exact hg250 trivial
                · try simp only [decide_eq_true_eq, decide_eq_false_iff_not, Bool.not_eq_true', Bool.not_eq_false', Bool.not_eq_eq_eq_not, Bool.not_true, Bool.not_false, Bool.and_eq_true, Bool.or_eq_true, Bool.or_eq_false_iff, beq_iff_eq, beq_eq_false_iff_ne, ne_eq, Int.not_lt, Int.not_le, Decidable.not_not] at hg250
                  refine m_takel_yes (j := 27) (t := 250) 28 rfl rfl rfl rfl rfl (by kernel_rfl) (by kernel_rfl) (by kernel_rfl) (fun _ _ _ _ h => h) (vl_fieldAddr ty109 fo109_1 ty107 rfl) rfl rfl ?_
                  refine m_takel_yes (j := 27) (t := 250) 29 rfl rfl rfl rfl rfl (by kernel_rfl) (by kernel_rfl) (by kernel_rfl) (fun _ _ _ _ h => h) (vl_fieldAddr ty107 fo107_1 ty3 rfl) rfl rfl ?_
                  refine m_take_yes (j := 27) (t := 250) 30 true rfl rfl rfl rfl rfl (by kernel_rfl) (by kernel_rfl) (by kernel_rfl) (fun _ _ _ _ h => h) (v_loadl ty3 rfl rfl rfl rfl) rfl rfl ?_
                  refine m_take_yes (j := 27) (t := 250) 31 false rfl rfl rfl rfl rfl (by kernel_rfl) (by kernel_rfl) (by kernel_rfl) (fun _ _ _ _ h => h) (v_move rfl) rfl rfl ?_
                  refine m_take_yes (j := 27) (t := 250) 32 false rfl rfl rfl rfl rfl (by kernel_rfl) (by kernel_rfl) (by kernel_rfl) (fun _ _ _ _ h => h) (v_move rfl) rfl rfl ?_
                  refine m_take_yes (j := 27) (t := 250) 33 false rfl rfl rfl rfl rfl (by kernel_rfl) (by kernel_rfl) (by kernel_rfl) (fun _ _ _ _ h => h) (v_indexAddr ty103 ty113 rfl rfl (by first | rfl | assumption) (by first | rfl | exact (rfl : (0 : Int) = ((0 : Nat) : Int)) | exact (Int.toNat_of_nonneg (by omega)).symm) (map_get hy) rfl) rfl rfl ?_
                  refine m_take_yes (j := 27) (t := 250) 34 false rfl rfl rfl rfl rfl (by kernel_rfl) (by kernel_rfl) (by kernel_rfl) (fun _ _ _ _ h => h) (by first | exact v_fieldAddr ty113 fo113_2 ty107 rfl | exact v_fieldAddr_box ty113 fo113_2 ty107 rfl) rfl rfl ?_
                  refine m_take_yes (j := 27) (t := 250) 35 false rfl rfl rfl rfl rfl (by kernel_rfl) (by kernel_rfl) (by kernel_rfl) (fun _ _ _ _ h => h) (by first | exact v_fieldAddr ty107 fo107_1 ty3 rfl | exact v_fieldAddr_box ty107 fo107_1 ty3 rfl) rfl rfl ?_
                  refine m_take_yes (j := 27) (t := 250) 36 true rfl rfl rfl rfl rfl (by kernel_rfl) (by kernel_rfl) (by kernel_rfl) (fun _ _ _ _ h => h) (by first | exact v_load ty3 rfl rfl (by first | rfl | assumption) (map_get hy) rfl | exact v_load_box ty3 rfl rfl (by assumption) rfl) rfl rfl ?_
                  refine m_take_yes (j := 27) (t := 250) 37 false rfl rfl rfl rfl rfl (by kernel_rfl) (by kernel_rfl) (by kernel_rfl) (fun _ _ _ _ h => h) (v_neq rfl rfl) rfl rfl ?_
                  refine m_take_yes (j := 6) (t := 229) 38 false rfl rfl rfl rfl rfl (by kernel_rfl) (by kernel_rfl) (by kernel_rfl) (fun _ _ _ _ h => h) (v_pick_f rfl rfl) rfl rfl ?_
                  refine m_take_yes (j := 4) (t := 227) 39 false rfl rfl rfl rfl rfl (by kernel_rfl) (by kernel_rfl) (by kernel_rfl) (fun _ _ _ _ h => h) (v_pick_t rfl rfl) rfl rfl ?_
                  refine m_take 40 false rfl rfl (by kernel_rfl) (by kernel_rfl) (by kernel_rfl) (fun _ _ _ _ h => h) (v_pick_f rfl rfl) rfl rfl ?_
                  refine m_take 41 false rfl rfl (by kernel_rfl) (by kernel_rfl) (by kernel_rfl) (fun _ _ _ _ h => h) (v_move rfl) rfl rfl ?_
                  refine m_split 264 rfl (fun hg264 => ?_) (fun hg264 => ?_)
                  · exfalso; (try simp only [decide_eq_true_eq, decide_eq_false_iff_not, Bool.not_eq_true', Bool.not_eq_false', Bool.not_eq_eq_eq_not, Bool.not_true, Bool.not_false, Bool.and_eq_true, Bool.or_eq_true, Bool.or_eq_false_iff, beq_iff_eq, beq_eq_false_iff_ne, ne_eq, Int.not_lt, Int.not_le, Decidable.not_not] at hg264); first | exact hg264 rfl | exact hg264 trivial
                  · try simp only [decide_eq_true_eq, decide_eq_false_iff_not, Bool.not_eq_true', Bool.not_eq_false', Bool.not_eq_eq_eq_not, Bool.not_true, Bool.not_false, Bool.and_eq_true, Bool.or_eq_true, Bool.or_eq_false_iff, beq_iff_eq, beq_eq_false_iff_ne, ne_eq, Int.not_lt, Int.not_le, Decidable.not_not] at hg264
                    refine m_take_yes (j := 41) (t := 264) 42 false rfl rfl rfl rfl rfl (by kernel_rfl) (by kernel_rfl) (by kernel_rfl) (fun _ _ _ _ h => h) (v_move rfl) rfl rfl ?_
                    refine m_take_yes (j := 41) (t := 264) 43 false rfl rfl rfl rfl rfl (by kernel_rfl) (by kernel_rfl) (by kernel_rfl) (fun _ _ _ _ h => h) (v_not rfl) rfl rfl ?_
                    refine m_take_yes (j := 41) (t := 264) 44 false rfl rfl rfl rfl rfl (by kernel_rfl) (by kernel_rfl) (by kernel_rfl) (fun _ _ _ _ h => h) (v_move rfl) rfl rfl ?_
                    refine m_split 267 rfl (fun hg267 => ?_) (fun hg267 => ?_)
                    · exfalso; (try simp only [decide_eq_true_eq, decide_eq_false_iff_not, Bool.not_eq_true', Bool.not_eq_false', Bool.not_eq_eq_eq_not, Bool.not_true, Bool.not_false, Bool.and_eq_true, Bool.or_eq_true, Bool.or_eq_false_iff, beq_iff_eq, beq_eq_false_iff_ne, ne_eq, Int.not_lt, Int.not_le, Decidable.not_not] at hg267); simp at hg267
                    · try simp only [decide_eq_true_eq, decide_eq_false_iff_not, Bool.not_eq_true', Bool.not_eq_false', Bool.not_eq_eq_eq_not, Bool.not_true, Bool.not_false, Bool.and_eq_true, Bool.or_eq_true, Bool.or_eq_false_iff, beq_iff_eq, beq_eq_false_iff_ne, ne_eq, Int.not_lt, Int.not_le, Decidable.not_not] at hg267
                      refine m_take_no (j := 44) (t := 267) 45 rfl rfl rfl rfl rfl rfl (by kernel_rfl) (by kernel_rfl) (by kernel_rfl) (fun _ _ _ _ h => h) rfl rfl ?_
                      refine m_take_no (j := 44) (t := 267) 46 rfl rfl rfl rfl rfl rfl (by kernel_rfl) (by kernel_rfl) (by kernel_rfl) (fun _ _ _ _ h => h) rfl rfl ?_
                      refine m_take_no (j := 44) (t := 267) 47 rfl rfl rfl rfl rfl rfl (by kernel_rfl) (by kernel_rfl) (by kernel_rfl) (fun _ _ _ _ h => h) rfl rfl ?_
                      refine m_take_no (j := 44) (t := 267) 48 rfl rfl rfl rfl rfl rfl (by kernel_rfl) (by kernel_rfl) (by kernel_rfl) (fun _ _ _ _ h => h) rfl rfl ?_
                      refine m_take_und (j := 48) (t := 271) 49 rfl rfl rfl rfl rfl (by kernel_rfl) (by kernel_rfl) (by kernel_rfl) (fun _ _ _ _ h => h) rfl rfl ?_
                      refine m_take_und (j := 48) (t := 271) 50 rfl rfl rfl rfl rfl (by kernel_rfl) (by kernel_rfl) (by kernel_rfl) (fun _ _ _ _ h => h) rfl rfl ?_
                      refine m_take_und (j := 48) (t := 271) 51 rfl rfl rfl rfl rfl (by kernel_rfl) (by kernel_rfl) (by kernel_rfl) (fun _ _ _ _ h => h) rfl rfl ?_
                      refine m_take_und (j := 48) (t := 271) 52 rfl rfl rfl rfl rfl (by kernel_rfl) (by kernel_rfl) (by kernel_rfl) (fun _ _ _ _ h => h) rfl rfl ?_
                      refine m_take_no (j := 44) (t := 267) 53 rfl rfl rfl rfl rfl rfl (by kernel_rfl) (by kernel_rfl) (by kernel_rfl) (fun _ _ _ _ h => h) rfl rfl ?_
                      refine m_take_no (j := 44) (t := 267) 54 rfl rfl rfl rfl rfl rfl (by kernel_rfl) (by kernel_rfl) (by kernel_rfl) (fun _ _ _ _ h => h) rfl rfl ?_
                      refine m_take_und (j := 54) (t := 277) 55 rfl rfl rfl rfl rfl (by kernel_rfl) (by kernel_rfl) (by kernel_rfl) (fun _ _ _ _ h => h) rfl rfl ?_
                      refine m_take_und (j := 54) (t := 277) 56 rfl rfl rfl rfl rfl (by kernel_rfl) (by kernel_rfl) (by kernel_rfl) (fun _ _ _ _ h => h) rfl rfl ?_
                      refine m_take_und (j := 54) (t := 277) 57 rfl rfl rfl rfl rfl (by kernel_rfl) (by kernel_rfl) (by kernel_rfl) (fun _ _ _ _ h => h) rfl rfl ?_
                      refine m_take_und (j := 54) (t := 277) 58 rfl rfl rfl rfl rfl (by kernel_rfl) (by kernel_rfl) (by kernel_rfl) (fun _ _ _ _ h => h) rfl rfl ?_
                      refine m_take_no (j := 44) (t := 267) 59 rfl rfl rfl rfl rfl rfl (by kernel_rfl) (by kernel_rfl) (by kernel_rfl) (fun _ _ _ _ h => h) rfl rfl ?_
                      refine m_take_yes (j := 41) (t := 264) 60 false rfl rfl rfl rfl rfl (by kernel_rfl) (by kernel_rfl) (by kernel_rfl) (fun _ _ _ _ h => h) (v_pick_f rfl rfl) rfl rfl ?_
                      refine m_take 61 false rfl rfl (by kernel_rfl) (by kernel_rfl) (by kernel_rfl) (fun _ _ _ _ h => h) (v_pick_f rfl rfl) rfl rfl ?_
                      refine m_done (by kernel_rfl) ?_
                      refine g_next hK33 ?_
                      first | refine g_keep [5, 7, 284] [] [] (keep_cons rfl (keep_cons rfl (keep_cons rfl keep_nil))) lkeep_nil keep_nil rfl ?_ | refine g_keep [5, 7, 284] [] [] rfl rfl rfl rfl ?_
                      refine g_cond rfl (fun h => by cases h) (fun _ => ?_)
                      refine g_skip ?_
                      first | refine g_keep [5, 7] [] [] (keep_cons rfl (keep_cons rfl keep_nil)) lkeep_nil keep_nil rfl ?_ | refine g_keep [5, 7] [] [] rfl rfl rfl rfl ?_
                      exact g_has ⟨rfl, rfl, rfl, hGz⟩
            · exfalso; (try simp only [decide_eq_true_eq, decide_eq_false_iff_not, Bool.not_eq_true', Bool.not_eq_false', Bool.not_eq_eq_eq_not, Bool.not_true, Bool.not_false, Bool.and_eq_true, Bool.or_eq_true, Bool.or_eq_false_iff, beq_iff_eq, beq_eq_false_iff_ne, ne_eq, Int.not_lt, Int.not_le, Decidable.not_not] at hg229); simp at hg229
        · skip
          obtain ⟨rfl, rfl, rfl, rfl⟩ := hI
          subst hGz
          refine g_seq (fun K34 hK34 => ?_)
          refine g_region ?_
          refine g_step rfl (s_val (v_move rfl) rfl rfl ?_)
          refine g_step rfl (s_callp rfl rfl rfl (peersAll_ok p r (bookOf l) _ hq_G_p hq_G_r (by omega)) ?_)
          rintro _ rfl
          refine g_step rfl (s_val (v_assign rfl) rfl rfl ?_)
          refine g_nil ?_
          refine g_next hK34 ?_
          refine g_seq (fun K35 hK35 => ?_)
          refine g_seq (fun K36 hK36 => ?_)
          refine g_region ?_
          refine g_step rfl (s_val (v_assign rfl) rfl rfl ?_)
          refine g_nil ?_
          refine g_next hK36 ?_
          refine g_block ?_
          first | refine g_keep [5, 7, 16, 17] [] [] (keep_cons rfl (keep_cons rfl (keep_cons rfl (keep_cons rfl keep_nil)))) lkeep_nil keep_nil rfl ?_ | refine g_keep [5, 7, 16, 17] [] [] rfl rfl rfl rfl ?_
          refine g_loop (fun n env L B G => ∃ (k : Nat) , k ≤ (pkeys (bookOf l)).length ∧ n = (pkeys (bookOf l)).length - k ∧ env = [(5, .box p 0), (7, av7), (16, .imm ((pkeys (bookOf l)).map (.int .i64))), (17, .int .i64 (k : Int))] ∧ L = [] ∧ B = [] ∧ Gz = G) ((pkeys (bookOf l)).length) ⟨0, Nat.zero_le _, rfl, rfl, rfl, rfl, rfl⟩ (fun n env L B G hI => ?_)
          obtain ⟨k, hk, rfl, rfl, rfl, rfl, rfl⟩ := hI
          have hkl : (pkeys (bookOf l)).length ≤ 40 := by rw [pkeys_length]; exact hml
          refine g_seq (fun K37 hK37 => ?_)
          refine g_seq (fun K38 hK38 => ?_)
          refine g_region ?_
          refine g_step rfl (s_val (v_move rfl) rfl rfl ?_)
          refine g_step rfl (s_val (v_move rfl) rfl rfl ?_)
          refine g_step rfl (s_val (v_len ty41 rfl (by first | rfl | assumption) (by first | exact List.length_map .. | rfl)) rfl rfl ?_)
          refine g_step rfl (s_val (v_lss rfl rfl) rfl rfl ?_)
          refine g_nil ?_
          refine g_next hK38 ?_
          refine g_cond rfl (fun hc290 => ?_) (fun hc290 => ?_)
          · try simp only [decide_eq_true_eq, decide_eq_false_iff_not, Bool.not_eq_true', Bool.not_eq_false', Bool.not_eq_eq_eq_not, Bool.not_true, Bool.not_false, Bool.and_eq_true, Bool.or_eq_true, Bool.or_eq_false_iff, beq_iff_eq, beq_eq_false_iff_ne, ne_eq, Int.not_lt, Int.not_le, Decidable.not_not] at hc290
            obtain ⟨z, hz⟩ := get_some (l := (pkeys (bookOf l))) (k := k) (by omega)
            refine g_skip ?_
            refine g_next hK37 ?_
            refine g_seq (fun K39 hK39 => ?_)
            refine g_block ?_
            refine g_seq (fun K40 hK40 => ?_)
            refine g_region ?_
            refine g_step rfl (s_val (v_move rfl) rfl rfl ?_)
            refine g_step rfl (s_val (v_move rfl) rfl rfl ?_)
            refine g_step rfl (s_val (v_move rfl) rfl rfl ?_)
            refine g_step rfl (s_val (v_indexAddr ty41 ty3 rfl rfl (by first | rfl | assumption) (by first | rfl | exact (rfl : (0 : Int) = ((0 : Nat) : Int)) | exact (Int.toNat_of_nonneg (by omega)).symm) (by first | assumption | exact map_get (by assumption) | rfl) rfl) rfl rfl ?_)
            refine g_step rfl (s_val (by first | exact v_load ty3 rfl rfl (by first | rfl | assumption) (by first | assumption | exact map_get (by assumption) | rfl) rfl | exact v_load_box ty3 rfl rfl (by assumption) rfl) rfl rfl ?_)
            refine g_step rfl (s_callp rfl rfl rfl (peersGet_ok p r (bookOf l) _ hq_G_p hq_G_r z) ?_)
            rintro _ rfl
            rw [show (pget (bookOf l) z).isSome = true from (pkeys_mem _ _).1 (mem_get hz)]
            refine g_step rfl (s_val (v_move rfl) rfl rfl ?_)
            refine g_step rfl (s_val (v_extract rfl rfl) rfl rfl ?_)
            refine g_step rfl (s_val (v_extract rfl rfl) rfl rfl ?_)
            refine g_step rfl (s_alloc (av := (.agg [(.int .i64 0), (.int .i64 0), (.int .i64 0)])) ty109 rfl rfl rfl rfl ?_)
            refine g_step rfl (s_store_all ty109 rfl rfl rfl rfl rfl rfl ?_)
            refine g_step rfl (s_val (v_assign rfl) rfl rfl ?_)
            refine g_nil ?_
            refine g_next hK40 ?_
            refine g_seq (fun K41 hK41 => ?_)
            refine g_draw (n := 18) (fun j => !([] : List Nat).contains j) rfl rfl ?_
            refine m_take 0 false rfl rfl (by kernel_rfl) (by kernel_rfl) (by kernel_rfl) (fun _ _ _ _ h => h) (v_move rfl) rfl rfl ?_
            refine m_take 1 false rfl rfl (by kernel_rfl) (by kernel_rfl) (by kernel_rfl) (fun _ _ _ _ h => h) (v_not rfl) rfl rfl ?_
            refine m_take 2 false rfl rfl (by kernel_rfl) (by kernel_rfl) (by kernel_rfl) (fun _ _ _ _ h => h) (v_move rfl) rfl rfl ?_
            refine m_split 304 rfl (fun hg304 => ?_) (fun hg304 => ?_)
            · exfalso; (try simp only [decide_eq_true_eq, decide_eq_false_iff_not, Bool.not_eq_true', Bool.not_eq_false', Bool.not_eq_eq_eq_not, Bool.not_true, Bool.not_false, Bool.and_eq_true, Bool.or_eq_true, Bool.or_eq_false_iff, beq_iff_eq, beq_eq_false_iff_ne, ne_eq, Int.not_lt, Int.not_le, Decidable.not_not] at hg304); simp at hg304
            · try simp only [decide_eq_true_eq, decide_eq_false_iff_not, Bool.not_eq_true', Bool.not_eq_false', Bool.not_eq_eq_eq_not, Bool.not_true, Bool.not_false, Bool.and_eq_true, Bool.or_eq_true, Bool.or_eq_false_iff, beq_iff_eq, beq_eq_false_iff_ne, ne_eq, Int.not_lt, Int.not_le, Decidable.not_not] at hg304
              refine m_take_yes (j := 2) (t := 304) 3 false rfl rfl rfl rfl rfl (by kernel_rfl) (by kernel_rfl) (by kernel_rfl) (fun _ _ _ _ h => h) (v_move rfl) rfl rfl ?_
              refine m_take_yes (j := 2) (t := 304) 4 false rfl rfl rfl rfl rfl (by kernel_rfl) (by kernel_rfl) (by kernel_rfl) (fun _ _ _ _ h => h) (v_gtr rfl rfl) rfl rfl ?_
              refine m_take_yes (j := 2) (t := 304) 5 false rfl rfl rfl rfl rfl (by kernel_rfl) (by kernel_rfl) (by kernel_rfl) (fun _ _ _ _ h => h) (v_move rfl) rfl rfl ?_
              refine m_split 307 rfl (fun hg307 => ?_) (fun hg307 => ?_)
              · try simp only [decide_eq_true_eq, decide_eq_false_iff_not, Bool.not_eq_true', Bool.not_eq_false', Bool.not_eq_eq_eq_not, Bool.not_true, Bool.not_false, Bool.and_eq_true, Bool.or_eq_true, Bool.or_eq_false_iff, beq_iff_eq, beq_eq_false_iff_ne, ne_eq, Int.not_lt, Int.not_le, Decidable.not_not] at hg307
                obtain ⟨w, hw⟩ := get_some (l := pkeys (bookOf l)) (k := k - 1) (by omega)
                have hlt := pkeys_lt hnd (by omega) hw hz
                refine m_take_yes (j := 5) (t := 307) 6 false rfl rfl rfl rfl rfl (by kernel_rfl) (by kernel_rfl) (by kernel_rfl) (fun _ _ _ _ h => h) (v_move rfl) rfl rfl ?_
                refine m_take_yes (j := 5) (t := 307) 7 false rfl rfl rfl rfl rfl (by kernel_rfl) (by kernel_rfl) (by kernel_rfl) (fun _ _ _ _ h => h) (v_move rfl) rfl rfl ?_
                refine m_take_yes (j := 5) (t := 307) 8 false rfl rfl rfl rfl rfl (by kernel_rfl) (by kernel_rfl) (by kernel_rfl) (fun _ _ _ _ h => h) (v_indexAddr ty41 ty3 rfl rfl (by first | rfl | assumption) (by first | rfl | exact (rfl : (0 : Int) = ((0 : Nat) : Int)) | exact (Int.toNat_of_nonneg (by omega)).symm) (by first | assumption | exact map_get (by assumption) | rfl) rfl) rfl rfl ?_
                refine m_take_yes (j := 5) (t := 307) 9 true rfl rfl rfl rfl rfl (by kernel_rfl) (by kernel_rfl) (by kernel_rfl) (fun _ _ _ _ h => h) (by first | exact v_load ty3 rfl rfl (by first | rfl | assumption) (by first | assumption | exact map_get (by assumption) | rfl) rfl | exact v_load_box ty3 rfl rfl (by assumption) rfl) rfl rfl ?_
                refine m_take_yes (j := 5) (t := 307) 10 false rfl rfl rfl rfl rfl (by kernel_rfl) (by kernel_rfl) (by kernel_rfl) (fun _ _ _ _ h => h) (v_move rfl) rfl rfl ?_
                refine m_take_yes (j := 5) (t := 307) 11 false rfl rfl rfl rfl rfl (by kernel_rfl) (by kernel_rfl) (by kernel_rfl) (fun _ _ _ _ h => h) (v_move rfl) rfl rfl ?_
                refine m_take_yes (j := 5) (t := 307) 12 false rfl rfl rfl rfl rfl (by kernel_rfl) (by kernel_rfl) (by kernel_rfl) (fun _ _ _ _ h => h) (v_sub_ rfl rfl (by omega)) rfl rfl ?_
                refine m_take_yes (j := 5) (t := 307) 13 false rfl rfl rfl rfl rfl (by kernel_rfl) (by kernel_rfl) (by kernel_rfl) (fun _ _ _ _ h => h) (v_indexAddr ty41 ty3 rfl rfl (by first | rfl | assumption) (by omega) (map_get hw) rfl) rfl rfl ?_
                refine m_take_yes (j := 5) (t := 307) 14 true rfl rfl rfl rfl rfl (by kernel_rfl) (by kernel_rfl) (by kernel_rfl) (fun _ _ _ _ h => h) (by first | exact v_load ty3 rfl rfl (by first | rfl | assumption) (map_get hw) rfl | exact v_load_box ty3 rfl rfl (by assumption) rfl) rfl rfl ?_
                refine m_take_yes (j := 5) (t := 307) 15 false rfl rfl rfl rfl rfl (by kernel_rfl) (by kernel_rfl) (by kernel_rfl) (fun _ _ _ _ h => h) (v_leq rfl rfl) rfl rfl ?_
                refine m_take_yes (j := 2) (t := 304) 16 false rfl rfl rfl rfl rfl (by kernel_rfl) (by kernel_rfl) (by kernel_rfl) (fun _ _ _ _ h => h) (v_pick_t rfl rfl) rfl rfl ?_
                refine m_take 17 false rfl rfl (by kernel_rfl) (by kernel_rfl) (by kernel_rfl) (fun _ _ _ _ h => h) (v_pick_f rfl rfl) rfl rfl ?_
                refine m_done (by kernel_rfl) ?_
                refine g_next hK41 ?_
                first | refine g_keep [5, 7, 16, 17, 319] [] [] (keep_cons rfl (keep_cons rfl (keep_cons rfl (keep_cons rfl (keep_cons rfl keep_nil))))) lkeep_nil keep_nil rfl ?_ | refine g_keep [5, 7, 16, 17, 319] [] [] rfl rfl rfl rfl ?_
                refine g_cond rfl (fun hc319 => ?_) (fun hc319 => ?_)
                · exfalso; (try simp only [decide_eq_true_eq, decide_eq_false_iff_not, Bool.not_eq_true', Bool.not_eq_false', Bool.not_eq_eq_eq_not, Bool.not_true, Bool.not_false, Bool.and_eq_true, Bool.or_eq_true, Bool.or_eq_false_iff, beq_iff_eq, beq_eq_false_iff_ne, ne_eq, Int.not_lt, Int.not_le, Decidable.not_not] at hc319); omega
                · try simp only [decide_eq_true_eq, decide_eq_false_iff_not, Bool.not_eq_true', Bool.not_eq_false', Bool.not_eq_eq_eq_not, Bool.not_true, Bool.not_false, Bool.and_eq_true, Bool.or_eq_true, Bool.or_eq_false_iff, beq_iff_eq, beq_eq_false_iff_ne, ne_eq, Int.not_lt, Int.not_le, Decidable.not_not] at hc319
                  refine g_skip ?_
                  refine g_block_normal ?_
                  refine g_next hK39 ?_
                  refine g_region ?_
                  refine g_step rfl (s_val (v_move rfl) rfl rfl ?_)
                  refine g_step rfl (s_val (v_add rfl rfl (by omega)) rfl rfl ?_)
                  refine g_step rfl (s_val (v_assign rfl) rfl rfl ?_)
                  refine g_nil ?_
                  first | refine g_keep [5, 7, 16, 17] [] [] (keep_cons rfl (keep_cons rfl (keep_cons rfl (keep_cons rfl keep_nil)))) lkeep_nil keep_nil rfl ?_ | refine g_keep [5, 7, 16, 17] [] [] rfl rfl rfl rfl ?_
                  exact g_round _ (by omega) ⟨k + 1, by omega, rfl, rfl, rfl, rfl, rfl⟩
              · try simp only [decide_eq_true_eq, decide_eq_false_iff_not, Bool.not_eq_true', Bool.not_eq_false', Bool.not_eq_eq_eq_not, Bool.not_true, Bool.not_false, Bool.and_eq_true, Bool.or_eq_true, Bool.or_eq_false_iff, beq_iff_eq, beq_eq_false_iff_ne, ne_eq, Int.not_lt, Int.not_le, Decidable.not_not] at hg307
                refine m_take_no (j := 5) (t := 307) 6 rfl rfl rfl rfl rfl rfl (by kernel_rfl) (by kernel_rfl) (by kernel_rfl) (fun _ _ _ _ h => h) rfl rfl ?_
                refine m_take_no (j := 5) (t := 307) 7 rfl rfl rfl rfl rfl rfl (by kernel_rfl) (by kernel_rfl) (by kernel_rfl) (fun _ _ _ _ h => h) rfl rfl ?_
                refine m_take_no (j := 5) (t := 307) 8 rfl rfl rfl rfl rfl rfl (by kernel_rfl) (by kernel_rfl) (by kernel_rfl) (fun _ _ _ _ h => h) rfl rfl ?_
                refine m_take_no (j := 5) (t := 307) 9 rfl rfl rfl rfl rfl rfl (by kernel_rfl) (by kernel_rfl) (by kernel_rfl) (fun _ _ _ _ h => h) rfl rfl ?_
                refine m_take_no (j := 5) (t := 307) 10 rfl rfl rfl rfl rfl rfl (by kernel_rfl) (by kernel_rfl) (by kernel_rfl) (fun _ _ _ _ h => h) rfl rfl ?_
                refine m_take_no (j := 5) (t := 307) 11 rfl rfl rfl rfl rfl rfl (by kernel_rfl) (by kernel_rfl) (by kernel_rfl) (fun _ _ _ _ h => h) rfl rfl ?_
                refine m_take_no (j := 5) (t := 307) 12 rfl rfl rfl rfl rfl rfl (by kernel_rfl) (by kernel_rfl) (by kernel_rfl) (fun _ _ _ _ h => h) rfl rfl ?_
                refine m_take_no (j := 5) (t := 307) 13 rfl rfl rfl rfl rfl rfl (by kernel_rfl) (by kernel_rfl) (by kernel_rfl) (fun _ _ _ _ h => h) rfl rfl ?_
                refine m_take_no (j := 5) (t := 307) 14 rfl rfl rfl rfl rfl rfl (by kernel_rfl) (by kernel_rfl) (by kernel_rfl) (fun _ _ _ _ h => h) rfl rfl ?_
                refine m_take_no (j := 5) (t := 307) 15 rfl rfl rfl rfl rfl rfl (by kernel_rfl) (by kernel_rfl) (by kernel_rfl) (fun _ _ _ _ h => h) rfl rfl ?_
                refine m_take_yes (j := 2) (t := 304) 16 false rfl rfl rfl rfl rfl (by kernel_rfl) (by kernel_rfl) (by kernel_rfl) (fun _ _ _ _ h => h) (v_pick_f rfl rfl) rfl rfl ?_
                refine m_take 17 false rfl rfl (by kernel_rfl) (by kernel_rfl) (by kernel_rfl) (fun _ _ _ _ h => h) (v_pick_f rfl rfl) rfl rfl ?_
                refine m_done (by kernel_rfl) ?_
                refine g_next hK41 ?_
                first | refine g_keep [5, 7, 16, 17, 319] [] [] (keep_cons rfl (keep_cons rfl (keep_cons rfl (keep_cons rfl (keep_cons rfl keep_nil))))) lkeep_nil keep_nil rfl ?_ | refine g_keep [5, 7, 16, 17, 319] [] [] rfl rfl rfl rfl ?_
                refine g_cond rfl (fun h => by cases h) (fun _ => ?_)
                refine g_skip ?_
                refine g_block_normal ?_
                refine g_next hK39 ?_
                refine g_region ?_
                refine g_step rfl (s_val (v_move rfl) rfl rfl ?_)
                refine g_step rfl (s_val (v_add rfl rfl (by omega)) rfl rfl ?_)
                refine g_step rfl (s_val (v_assign rfl) rfl rfl ?_)
                refine g_nil ?_
                first | refine g_keep [5, 7, 16, 17] [] [] (keep_cons rfl (keep_cons rfl (keep_cons rfl (keep_cons rfl keep_nil)))) lkeep_nil keep_nil rfl ?_ | refine g_keep [5, 7, 16, 17] [] [] rfl rfl rfl rfl ?_
                exact g_round _ (by omega) ⟨k + 1, by omega, rfl, rfl, rfl, rfl, rfl⟩
          · try simp only [decide_eq_true_eq, decide_eq_false_iff_not, Bool.not_eq_true', Bool.not_eq_false', Bool.not_eq_eq_eq_not, Bool.not_true, Bool.not_false, Bool.and_eq_true, Bool.or_eq_true, Bool.or_eq_false_iff, beq_iff_eq, beq_eq_false_iff_ne, ne_eq, Int.not_lt, Int.not_le, Decidable.not_not] at hc290
            obtain rfl : k = (pkeys (bookOf l)).length := by omega
            refine g_exit ?_
            refine g_then_exit ?_
            refine g_then_exit ?_
            refine g_block_same ?_
            refine g_next hK35 ?_
            refine g_seq (fun K42 hK42 => ?_)
            refine g_region ?_
            refine g_step rfl (s_val (v_move rfl) rfl rfl ?_)
            refine g_step rfl (s_val (v_len ty41 rfl (by first | rfl | assumption) (show _ = (pkeys (bookOf l)).length by simp)) rfl rfl ?_)
            refine g_step rfl (s_val (v_move rfl) rfl rfl ?_)
            refine g_step rfl (s_val (v_len ty41 rfl hown.view (show _ = (bookOf l).length by simp)) rfl rfl ?_)
            refine g_step rfl (s_val (v_eql rfl rfl) rfl rfl ?_)
            refine g_step rfl (s_val (v_move rfl) rfl rfl ?_)
            refine g_split 325 rfl (fun hg325 => ?_) (fun hg325 => ?_)
            · try simp only [decide_eq_true_eq, decide_eq_false_iff_not, Bool.not_eq_true', Bool.not_eq_false', Bool.not_eq_eq_eq_not, Bool.not_true, Bool.not_false, Bool.and_eq_true, Bool.or_eq_true, Bool.or_eq_false_iff, beq_iff_eq, beq_eq_false_iff_ne, ne_eq, Int.not_lt, Int.not_le, Decidable.not_not] at hg325
              refine g_step_yes (j := 5) (t := 325) rfl rfl rfl rfl (s_callp rfl rfl rfl (awake23_ok _) ?_)
              rintro _ rfl
              refine g_step rfl (s_val (v_pick_t rfl rfl) rfl rfl ?_)
              refine g_step rfl (s_val (v_assign rfl) rfl rfl ?_)
              refine g_nil ?_
              refine g_next hK42 ?_
              refine g_ret ?_
              refine g_end1 (.inl rfl) Try.results10 (.tmp rfl) [] (ASub.refl _) (by first | exact AHeap.sub_trans hs_B hown.sub | exact AHeap.sub_trans hs_B1 hown8.sub | exact AHeap.sub_refl _) (fun p hp => by cases hp) ⟨rfl, ?_⟩
              rfl
            · exfalso; (try simp only [decide_eq_true_eq, decide_eq_false_iff_not, Bool.not_eq_true', Bool.not_eq_false', Bool.not_eq_eq_eq_not, Bool.not_true, Bool.not_false, Bool.and_eq_true, Bool.or_eq_true, Bool.or_eq_false_iff, beq_iff_eq, beq_eq_false_iff_ne, ne_eq, Int.not_lt, Int.not_le, Decidable.not_not] at hg325); rw [pkeys_length] at hg325; exact hg325 rfl

end Go.Proofs.Ytobigfbgaiglkaa

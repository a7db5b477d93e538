import Derived.Test.YtmnngdbcfdnefaaDice
set_option linter.unusedSimpArgs false
set_option linter.unusedVariables false
set_option maxRecDepth 100000
namespace Go.Proofs.Ytmnngdbcfdnefaa
open Go Go.Proofs.Ytmnngdbcfdnefaa.AM
theorem diceKeeps_ok (l d : List Int) (G : AHeap) : PCalls Try.prog 3 [encI l, encI d] G (fun r => r = .bool true) := by
  refine LCalls.intro 45 fi3 rfl Try.ntmps3 rfl (fun _ h => h.elim) (fun H hH w0 hw0 => ?_)
  refine g_seq (fun K0 hK0 => ?_)
  refine g_region ?_
  refine g_step rfl (s_val (v_assign rfl) rfl rfl ?_)
  refine g_nil ?_
  refine g_next hK0 ?_
  refine g_seq (fun K1 hK1 => ?_)
  refine g_seq (fun K2 hK2 => ?_)
  refine g_region ?_
  refine g_step rfl (s_val (v_move rfl) rfl rfl ?_)
  refine g_step rfl (s_val (v_len ty22 rfl (by first | rfl | assumption) (by first | exact List.length_map .. | rfl)) rfl rfl ?_)
  refine g_step rfl (s_val (v_gtr rfl rfl) rfl rfl ?_)
  refine g_step rfl (s_val (v_move rfl) rfl rfl ?_)
  refine g_split 10 rfl (fun hg10 => ?_) (fun hg10 => ?_)
  · try simp only [decide_eq_true_eq, decide_eq_false_iff_not, Bool.not_eq_true', Bool.not_eq_false', Bool.not_eq_eq_eq_not, Bool.not_true, Bool.not_false, Bool.and_eq_true, Bool.or_eq_true, Bool.or_eq_false_iff, beq_iff_eq, beq_eq_false_iff_ne, ne_eq, Int.not_lt, Int.not_le, Decidable.not_not] at hg10
    refine g_step_no (j := 3) (t := 10) rfl rfl rfl rfl rfl rfl rfl ?_
    refine g_step_no (j := 3) (t := 10) rfl rfl rfl rfl rfl rfl rfl ?_
    refine g_step_no (j := 3) (t := 10) rfl rfl rfl rfl rfl rfl rfl ?_
    refine g_step rfl (s_val (v_pick_t rfl rfl) rfl rfl ?_)
    refine g_nil ?_
    refine g_next hK2 ?_
    refine g_cond rfl (fun _ => ?_) (fun h => by cases h)
    refine g_seq (fun K3 hK3 => ?_)
    refine g_region ?_
    refine g_step rfl (s_callp rfl rfl rfl (awake19_ok _) ?_)
    rintro _ rfl
    refine g_step rfl (s_val (v_assign rfl) rfl rfl ?_)
    refine g_nil ?_
    refine g_next hK3 ?_
    refine g_ret ?_
    refine g_then_ret ?_
    refine g_end1 (.inl rfl) Try.results3 (.tmp rfl) [] (ASub.refl _) (AHeap.sub_refl _) (fun p hp => by cases hp) ⟨rfl, ?_⟩
    rfl
  · try simp only [decide_eq_true_eq, decide_eq_false_iff_not, Bool.not_eq_true', Bool.not_eq_false', Bool.not_eq_eq_eq_not, Bool.not_true, Bool.not_false, Bool.and_eq_true, Bool.or_eq_true, Bool.or_eq_false_iff, beq_iff_eq, beq_eq_false_iff_ne, ne_eq, Int.not_lt, Int.not_le, Decidable.not_not] at hg10
    refine g_step_yes (j := 3) (t := 10) rfl rfl rfl rfl (s_val (v_move rfl) rfl rfl ?_)
    refine g_step_yes (j := 3) (t := 10) rfl rfl rfl rfl (s_val (v_len ty22 rfl (by first | rfl | assumption) (by first | exact List.length_map .. | rfl)) rfl rfl ?_)
    refine g_step_yes (j := 3) (t := 10) rfl rfl rfl rfl (s_val (v_gtr rfl rfl) rfl rfl ?_)
    refine g_step rfl (s_val (v_pick_f rfl rfl) rfl rfl ?_)
    refine g_nil ?_
    refine g_next hK2 ?_
    refine g_cond rfl (fun hc14 => ?_) (fun hc14 => ?_)
    · try simp only [decide_eq_true_eq, decide_eq_false_iff_not, Bool.not_eq_true', Bool.not_eq_false', Bool.not_eq_eq_eq_not, Bool.not_true, Bool.not_false, Bool.and_eq_true, Bool.or_eq_true, Bool.or_eq_false_iff, beq_iff_eq, beq_eq_false_iff_ne, ne_eq, Int.not_lt, Int.not_le, Decidable.not_not] at hc14
      refine g_seq (fun K4 hK4 => ?_)
      refine g_region ?_
      refine g_step rfl (s_callp rfl rfl rfl (awake19_ok _) ?_)
      rintro _ rfl
      refine g_step rfl (s_val (v_assign rfl) rfl rfl ?_)
      refine g_nil ?_
      refine g_next hK4 ?_
      refine g_ret ?_
      refine g_then_ret ?_
      refine g_end1 (.inl rfl) Try.results3 (.tmp rfl) [] (ASub.refl _) (AHeap.sub_refl _) (fun p hp => by cases hp) ⟨rfl, ?_⟩
      rfl
    · try simp only [decide_eq_true_eq, decide_eq_false_iff_not, Bool.not_eq_true', Bool.not_eq_false', Bool.not_eq_eq_eq_not, Bool.not_true, Bool.not_false, Bool.and_eq_true, Bool.or_eq_true, Bool.or_eq_false_iff, beq_iff_eq, beq_eq_false_iff_ne, ne_eq, Int.not_lt, Int.not_le, Decidable.not_not] at hc14
      refine g_skip ?_
      refine g_next hK1 ?_
      refine g_seq (fun K5 hK5 => ?_)
      refine g_region ?_
      refine g_step rfl (s_val (v_move rfl) rfl rfl ?_)
      refine g_step rfl (s_call rfl rfl rfl (new_ok d _ _ rfl (by omega)) (fun _ h => h.elim) ?_)
      rintro n1 r1 effs1 hn1 hdom1 ⟨p, hp, rfl, rfl⟩ hok1
      have hw1 : w0.heap.size ≤ p := Nat.le_trans hn1 hp
      have hz1 := hdom1 _ hp
      generalize hE1 : setAll H [(p, .box (.agg [encI d]))] = G1
      have hs1 : H.sub G1 := hE1 ▸ sub_set' (AHeap.sub_refl _) hz1
      have hq1 : G1 p = some (.box (.agg [encI d])) := hE1 ▸ AHeap.get_set _ _ _
      refine g_step rfl (s_val (v_move rfl) rfl rfl ?_)
      refine g_step rfl (s_call rfl rfl rfl (shuffle_ok p d l _ _ hq1 rfl (by omega)) (fun b hb => .inr (by subst hb; exact hw1)) ?_)
      rintro n3 r3 effs3 hn3 hdom3 ⟨e3, he3, rfl⟩ hok3
      rw [setAll_append]
      generalize hE3 : setAll G1 [(p, .box (.agg [encI (shufRest l d)]))] = G3
      have hs3 : H.sub G3 := hE3 ▸ sub_set' hs1 hz1
      refine g_freeze 19 rfl (he3.own hn3 (fun b hb => by rw [← hE3]; exact (AHeap.get_set_ne _ _ (fun e => by rw [e] at hb; have := hdom3 p hb; rw [hq1] at this; cases this)).trans (hdom3 b hb))) ?_
      have hgl : (shuffled l d).length = l.length := shuf_length _ _ _
      have hgc : ∀ x, (shuffled l d).count x = l.count x := fun x => shuf_count x _ _ _ (by rcases l with _ | ⟨y, t⟩ <;> simp)
      refine g_step rfl (s_val (v_assign rfl) rfl rfl ?_)
      refine g_nil ?_
      refine g_next hK5 ?_
      refine g_seq (fun K6 hK6 => ?_)
      refine g_seq (fun K7 hK7 => ?_)
      refine g_region ?_
      refine g_step rfl (s_val (v_move rfl) rfl rfl ?_)
      refine g_step rfl (s_val (v_len ty22 rfl (by first | rfl | assumption) (by first | exact List.length_map .. | rfl)) rfl rfl ?_)
      refine g_step rfl (s_val (v_move rfl) rfl rfl ?_)
      refine g_step rfl (s_val (v_len ty22 rfl (by first | rfl | assumption) (by first | exact List.length_map .. | rfl)) rfl rfl ?_)
      refine g_step rfl (s_val (v_neq rfl rfl) rfl rfl ?_)
      refine g_nil ?_
      refine g_next hK7 ?_
      refine g_cond rfl (fun hc24 => ?_) (fun hc24 => ?_)
      · exfalso; (try simp only [decide_eq_true_eq, decide_eq_false_iff_not, Bool.not_eq_true', Bool.not_eq_false', Bool.not_eq_eq_eq_not, Bool.not_true, Bool.not_false, Bool.and_eq_true, Bool.or_eq_true, Bool.or_eq_false_iff, beq_iff_eq, beq_eq_false_iff_ne, ne_eq, Int.not_lt, Int.not_le, Decidable.not_not] at hc24); omega
      · try simp only [decide_eq_true_eq, decide_eq_false_iff_not, Bool.not_eq_true', Bool.not_eq_false', Bool.not_eq_eq_eq_not, Bool.not_true, Bool.not_false, Bool.and_eq_true, Bool.or_eq_true, Bool.or_eq_false_iff, beq_iff_eq, beq_eq_false_iff_ne, ne_eq, Int.not_lt, Int.not_le, Decidable.not_not] at hc24
        refine g_skip ?_
        refine g_next hK6 ?_
        refine g_seq (fun K8 hK8 => ?_)
        refine g_seq (fun K9 hK9 => ?_)
        refine g_region ?_
        refine g_step rfl (s_val (v_assign rfl) rfl rfl ?_)
        refine g_nil ?_
        refine g_next hK9 ?_
        refine g_block ?_
        refine g_keep [0, 5, 6] [] [] rfl rfl rfl rfl ?_
        refine g_loop (fun n env L B G => ∃ k : Nat, k ≤ l.length ∧ n = l.length - k ∧ env = [(0, encI l), (5, .imm ((shuffled l d).map (.int .i64))), (6, .int .i64 (k : Int))] ∧ L = [] ∧ B = [] ∧ G = G3) l.length ⟨0, by omega, rfl, rfl, rfl, rfl, rfl⟩ (fun n env L B G hI => ?_)
        obtain ⟨k, hk, rfl, rfl, rfl, rfl, rfl⟩ := hI
        refine g_seq (fun K10 hK10 => ?_)
        refine g_seq (fun K11 hK11 => ?_)
        refine g_region ?_
        refine g_step rfl (s_val (v_move rfl) rfl rfl ?_)
        refine g_step rfl (s_val (v_move rfl) rfl rfl ?_)
        refine g_step rfl (s_val (v_len ty22 rfl (by first | rfl | assumption) (by first | exact List.length_map .. | rfl)) rfl rfl ?_)
        refine g_step rfl (s_val (v_lss rfl rfl) rfl rfl ?_)
        refine g_nil ?_
        refine g_next hK11 ?_
        refine g_cond rfl (fun hc28 => ?_) (fun hc28 => ?_)
        · try simp only [decide_eq_true_eq, decide_eq_false_iff_not, Bool.not_eq_true', Bool.not_eq_false', Bool.not_eq_eq_eq_not, Bool.not_true, Bool.not_false, Bool.and_eq_true, Bool.or_eq_true, Bool.or_eq_false_iff, beq_iff_eq, beq_eq_false_iff_ne, ne_eq, Int.not_lt, Int.not_le, Decidable.not_not] at hc28
          obtain ⟨y, hx⟩ := get_some (l := l) (k := k) (by omega)
          refine g_skip ?_
          refine g_next hK10 ?_
          refine g_seq (fun K12 hK12 => ?_)
          refine g_block ?_
          refine g_seq (fun K13 hK13 => ?_)
          refine g_draw (n := 13) (fun j => !([] : List Nat).contains j) rfl rfl ?_
          refine m_take 0 false rfl rfl (by kernel_rfl) (by kernel_rfl) (by kernel_rfl) (fun _ _ _ _ h => h) (v_move rfl) rfl rfl ?_
          refine m_take 1 false rfl rfl (by kernel_rfl) (by kernel_rfl) (by kernel_rfl) (fun _ _ _ _ h => h) (v_move rfl) rfl rfl ?_
          refine m_take 2 false rfl rfl (by kernel_rfl) (by kernel_rfl) (by kernel_rfl) (fun _ _ _ _ h => h) (v_move rfl) rfl rfl ?_
          refine m_take 3 false rfl rfl (by kernel_rfl) (by kernel_rfl) (by kernel_rfl) (fun _ _ _ _ h => h) (v_indexAddr ty22 ty3 rfl rfl (by first | rfl | assumption) (by first | rfl | exact (rfl : (0 : Int) = ((0 : Nat) : Int)) | exact (Int.toNat_of_nonneg (by omega)).symm) (by first | assumption | exact map_get (by assumption) | rfl) rfl) rfl rfl ?_
          refine m_take 4 true rfl rfl (by kernel_rfl) (by kernel_rfl) (by kernel_rfl) (fun _ _ _ _ h => h) (by first | exact v_load ty3 rfl rfl (by first | rfl | assumption) (by first | assumption | exact map_get (by assumption) | rfl) rfl | exact v_load_box ty3 rfl rfl (by assumption) rfl) rfl rfl ?_
          refine m_take 6 false rfl rfl (by kernel_rfl) (by kernel_rfl) (by kernel_rfl) (fun _ _ _ _ h => h) (v_move rfl) rfl rfl ?_
          refine m_take 7 false rfl rfl (by kernel_rfl) (by kernel_rfl) (by kernel_rfl) (fun _ _ _ _ h => h) (v_move rfl) rfl rfl ?_
          refine m_take 8 false rfl rfl (by kernel_rfl) (by kernel_rfl) (by kernel_rfl) (fun _ _ _ _ h => h) (v_move rfl) rfl rfl ?_
          refine m_take 9 false rfl rfl (by kernel_rfl) (by kernel_rfl) (by kernel_rfl) (fun _ _ _ _ h => h) (v_indexAddr ty22 ty3 rfl rfl (by first | rfl | assumption) (by first | rfl | exact (rfl : (0 : Int) = ((0 : Nat) : Int)) | exact (Int.toNat_of_nonneg (by omega)).symm) (by first | assumption | exact map_get (by assumption) | rfl) rfl) rfl rfl ?_
          refine m_take 10 true rfl rfl (by kernel_rfl) (by kernel_rfl) (by kernel_rfl) (fun _ _ _ _ h => h) (by first | exact v_load ty3 rfl rfl (by first | rfl | assumption) (by first | assumption | exact map_get (by assumption) | rfl) rfl | exact v_load_box ty3 rfl rfl (by assumption) rfl) rfl rfl ?_
          refine m_one 5 (by kernel_rfl) rfl rfl ?_
          refine sm_callp rfl rfl rfl (count_ok (shuffled l d) _ _ _ rfl (by omega)) ?_
          rintro _ rfl
          refine m_one 11 (by kernel_rfl) rfl rfl ?_
          refine sm_callp rfl rfl rfl (count_ok l _ _ _ rfl (by omega)) ?_
          rintro _ rfl
          refine m_take 12 false rfl rfl (by kernel_rfl) (by kernel_rfl) (by kernel_rfl) (fun _ _ _ _ h => h) (v_neq rfl rfl) rfl rfl ?_
          refine m_done (by kernel_rfl) ?_
          refine g_next hK13 ?_
          refine g_cond rfl (fun hc43 => ?_) (fun hc43 => ?_)
          · exfalso; (try simp only [decide_eq_true_eq, decide_eq_false_iff_not, Bool.not_eq_true', Bool.not_eq_false', Bool.not_eq_eq_eq_not, Bool.not_true, Bool.not_false, Bool.and_eq_true, Bool.or_eq_true, Bool.or_eq_false_iff, beq_iff_eq, beq_eq_false_iff_ne, ne_eq, Int.not_lt, Int.not_le, Decidable.not_not] at hc43); exact hc43 (by rw [hgc])
          · try simp only [decide_eq_true_eq, decide_eq_false_iff_not, Bool.not_eq_true', Bool.not_eq_false', Bool.not_eq_eq_eq_not, Bool.not_true, Bool.not_false, Bool.and_eq_true, Bool.or_eq_true, Bool.or_eq_false_iff, beq_iff_eq, beq_eq_false_iff_ne, ne_eq, Int.not_lt, Int.not_le, Decidable.not_not] at hc43
            refine g_skip ?_
            refine g_block_normal ?_
            refine g_next hK12 ?_
            refine g_region ?_
            refine g_step rfl (s_val (v_move rfl) rfl rfl ?_)
            refine g_step rfl (s_val (v_add rfl rfl (by omega)) rfl rfl ?_)
            refine g_step rfl (s_val (v_assign rfl) rfl rfl ?_)
            refine g_nil ?_
            refine g_keep [0, 5, 6] [] [] rfl rfl rfl rfl ?_
            exact g_round _ (by omega) ⟨k + 1, by omega, rfl, rfl, rfl, rfl, rfl⟩
        · try simp only [decide_eq_true_eq, decide_eq_false_iff_not, Bool.not_eq_true', Bool.not_eq_false', Bool.not_eq_eq_eq_not, Bool.not_true, Bool.not_false, Bool.and_eq_true, Bool.or_eq_true, Bool.or_eq_false_iff, beq_iff_eq, beq_eq_false_iff_ne, ne_eq, Int.not_lt, Int.not_le, Decidable.not_not] at hc28
          refine g_exit ?_
          refine g_then_exit ?_
          refine g_then_exit ?_
          refine g_block_same ?_
          refine g_next hK8 ?_
          refine g_seq (fun K14 hK14 => ?_)
          refine g_region ?_
          refine g_step rfl (s_callp rfl rfl rfl (awake19_ok _) ?_)
          rintro _ rfl
          refine g_step rfl (s_val (v_assign rfl) rfl rfl ?_)
          refine g_nil ?_
          refine g_next hK14 ?_
          refine g_ret ?_
          refine g_end1 (.inl rfl) Try.results3 (.tmp rfl) [] (ASub.refl _) hs3 (fun p hp => by cases hp) ⟨rfl, ?_⟩
          rfl

theorem diceDraws_ok (l m : List Int) (hm : ∀ y ∈ m, I64 y) (G : AHeap) : PCalls Try.prog 4 [encI l, encI m] G (fun r => r = .bool true) := by
  refine LCalls.intro 73 fi4 rfl Try.ntmps4 rfl (fun _ h => h.elim) (fun H hH w0 hw0 => ?_)
  refine g_seq (fun K0 hK0 => ?_)
  refine g_region ?_
  refine g_step rfl (s_val (v_assign rfl) rfl rfl ?_)
  refine g_nil ?_
  refine g_next hK0 ?_
  refine g_seq (fun K1 hK1 => ?_)
  refine g_seq (fun K2 hK2 => ?_)
  refine g_region ?_
  refine g_step rfl (s_val (v_move rfl) rfl rfl ?_)
  refine g_step rfl (s_val (v_len ty22 rfl (by first | rfl | assumption) (by first | exact List.length_map .. | rfl)) rfl rfl ?_)
  refine g_step rfl (s_val (v_gtr rfl rfl) rfl rfl ?_)
  refine g_step rfl (s_val (v_move rfl) rfl rfl ?_)
  refine g_split 12 rfl (fun hg12 => ?_) (fun hg12 => ?_)
  · try simp only [decide_eq_true_eq, decide_eq_false_iff_not, Bool.not_eq_true', Bool.not_eq_false', Bool.not_eq_eq_eq_not, Bool.not_true, Bool.not_false, Bool.and_eq_true, Bool.or_eq_true, Bool.or_eq_false_iff, beq_iff_eq, beq_eq_false_iff_ne, ne_eq, Int.not_lt, Int.not_le, Decidable.not_not] at hg12
    refine g_step_no (j := 3) (t := 12) rfl rfl rfl rfl rfl rfl rfl ?_
    refine g_step_no (j := 3) (t := 12) rfl rfl rfl rfl rfl rfl rfl ?_
    refine g_step_no (j := 3) (t := 12) rfl rfl rfl rfl rfl rfl rfl ?_
    refine g_step rfl (s_val (v_pick_t rfl rfl) rfl rfl ?_)
    refine g_nil ?_
    refine g_next hK2 ?_
    refine g_cond rfl (fun _ => ?_) (fun h => by cases h)
    refine g_seq (fun K3 hK3 => ?_)
    refine g_region ?_
    refine g_step rfl (s_callp rfl rfl rfl (awake19_ok _) ?_)
    rintro _ rfl
    refine g_step rfl (s_val (v_assign rfl) rfl rfl ?_)
    refine g_nil ?_
    refine g_next hK3 ?_
    refine g_ret ?_
    refine g_then_ret ?_
    refine g_end1 (.inl rfl) Try.results4 (.tmp rfl) [] (ASub.refl _) (AHeap.sub_refl _) (fun p hp => by cases hp) ⟨rfl, ?_⟩
    rfl
  · try simp only [decide_eq_true_eq, decide_eq_false_iff_not, Bool.not_eq_true', Bool.not_eq_false', Bool.not_eq_eq_eq_not, Bool.not_true, Bool.not_false, Bool.and_eq_true, Bool.or_eq_true, Bool.or_eq_false_iff, beq_iff_eq, beq_eq_false_iff_ne, ne_eq, Int.not_lt, Int.not_le, Decidable.not_not] at hg12
    refine g_step_yes (j := 3) (t := 12) rfl rfl rfl rfl (s_val (v_move rfl) rfl rfl ?_)
    refine g_step_yes (j := 3) (t := 12) rfl rfl rfl rfl (s_val (v_len ty22 rfl (by first | rfl | assumption) (by first | exact List.length_map .. | rfl)) rfl rfl ?_)
    refine g_step_yes (j := 3) (t := 12) rfl rfl rfl rfl (s_val (v_gtr rfl rfl) rfl rfl ?_)
    refine g_step rfl (s_val (v_pick_f rfl rfl) rfl rfl ?_)
    refine g_nil ?_
    refine g_next hK2 ?_
    refine g_cond rfl (fun hc16 => ?_) (fun hc16 => ?_)
    · try simp only [decide_eq_true_eq, decide_eq_false_iff_not, Bool.not_eq_true', Bool.not_eq_false', Bool.not_eq_eq_eq_not, Bool.not_true, Bool.not_false, Bool.and_eq_true, Bool.or_eq_true, Bool.or_eq_false_iff, beq_iff_eq, beq_eq_false_iff_ne, ne_eq, Int.not_lt, Int.not_le, Decidable.not_not] at hc16
      refine g_seq (fun K4 hK4 => ?_)
      refine g_region ?_
      refine g_step rfl (s_callp rfl rfl rfl (awake19_ok _) ?_)
      rintro _ rfl
      refine g_step rfl (s_val (v_assign rfl) rfl rfl ?_)
      refine g_nil ?_
      refine g_next hK4 ?_
      refine g_ret ?_
      refine g_then_ret ?_
      refine g_end1 (.inl rfl) Try.results4 (.tmp rfl) [] (ASub.refl _) (AHeap.sub_refl _) (fun p hp => by cases hp) ⟨rfl, ?_⟩
      rfl
    · try simp only [decide_eq_true_eq, decide_eq_false_iff_not, Bool.not_eq_true', Bool.not_eq_false', Bool.not_eq_eq_eq_not, Bool.not_true, Bool.not_false, Bool.and_eq_true, Bool.or_eq_true, Bool.or_eq_false_iff, beq_iff_eq, beq_eq_false_iff_ne, ne_eq, Int.not_lt, Int.not_le, Decidable.not_not] at hc16
      refine g_skip ?_
      refine g_next hK1 ?_
      refine g_seq (fun K5 hK5 => ?_)
      refine g_region ?_
      refine g_step rfl (s_val (v_move rfl) rfl rfl ?_)
      refine g_step rfl (s_call rfl rfl rfl (new_ok l _ _ rfl (by omega)) (fun _ h => h.elim) ?_)
      rintro n1 r1 effs1 hn1 hdom1 ⟨p, hp1, rfl, rfl⟩ hok1
      have hw_p : w0.heap.size ≤ p := Nat.le_trans hn1 hp1
      have hz_p := hdom1 _ hp1
      have hz0_p := sub_none (AHeap.sub_refl _) hz_p
      generalize hE_p : setAll H [(p, .box (.agg [encI l]))] = G1
      have hs_G1 : H.sub G1 := hE_p ▸ sub_set' (AHeap.sub_refl _) hz0_p
      have hq_p : G1 p = some (.box (.agg [encI l])) := hE_p ▸ AHeap.get_set _ _ _
      refine g_step rfl (s_val (v_assign rfl) rfl rfl ?_)
      refine g_nil ?_
      refine g_next hK5 ?_
      refine g_seq (fun K6 hK6 => ?_)
      refine g_region ?_
      refine g_step rfl (s_val (v_assign rfl) rfl rfl ?_)
      refine g_nil ?_
      refine g_next hK6 ?_
      refine g_seq (fun K7 hK7 => ?_)
      refine g_seq (fun K8 hK8 => ?_)
      refine g_region ?_
      refine g_step rfl (s_val (v_assign rfl) rfl rfl ?_)
      refine g_nil ?_
      refine g_next hK8 ?_
      refine g_block ?_
      refine g_keep [0, 1, 5, 6, 7] [] [] rfl rfl rfl rfl ?_
      refine g_loop (fun n env L B G => ∃ k a : Nat, k ≤ m.length ∧ a ≤ l.length ∧ n = m.length - k ∧ env = [(0, encI l), (1, encI m), (5, .box p 0), (6, .int .i64 (a : Int)), (7, .int .i64 (k : Int))] ∧ L = [] ∧ B = [] ∧ G p = some (.box (.agg [encI (l.drop a)])) ∧ H.sub G) m.length ⟨0, 0, by omega, by omega, rfl, rfl, rfl, rfl, hq_p, hs_G1⟩ (fun n env L B G hI => ?_)
      obtain ⟨k, a, hk, ha, rfl, rfl, rfl, rfl, hq, hs⟩ := hI
      refine g_seq (fun K9 hK9 => ?_)
      refine g_seq (fun K10 hK10 => ?_)
      refine g_region ?_
      refine g_step rfl (s_val (v_move rfl) rfl rfl ?_)
      refine g_step rfl (s_val (v_move rfl) rfl rfl ?_)
      refine g_step rfl (s_val (v_len ty22 rfl (by first | rfl | assumption) (by first | exact List.length_map .. | rfl)) rfl rfl ?_)
      refine g_step rfl (s_val (v_lss rfl rfl) rfl rfl ?_)
      refine g_nil ?_
      refine g_next hK10 ?_
      refine g_cond rfl (fun hc23 => ?_) (fun hc23 => ?_)
      · try simp only [decide_eq_true_eq, decide_eq_false_iff_not, Bool.not_eq_true', Bool.not_eq_false', Bool.not_eq_eq_eq_not, Bool.not_true, Bool.not_false, Bool.and_eq_true, Bool.or_eq_true, Bool.or_eq_false_iff, beq_iff_eq, beq_eq_false_iff_ne, ne_eq, Int.not_lt, Int.not_le, Decidable.not_not] at hc23
        obtain ⟨y, hy⟩ := get_some (l := m) (k := k) (by omega)
        have hyb := hm y (mem_get hy)
        unfold I64 at hyb
        refine g_skip ?_
        refine g_next hK9 ?_
        refine g_seq (fun K11 hK11 => ?_)
        refine g_block ?_
        refine g_seq (fun K12 hK12 => ?_)
        refine g_seq (fun K13 hK13 => ?_)
        refine g_region ?_
        refine g_step rfl (s_val (v_move rfl) rfl rfl ?_)
        refine g_step rfl (s_callp rfl rfl rfl (left_ok p (l.drop a) _ hq) ?_)
        rintro _ rfl
        refine g_step rfl (s_val (v_move rfl) rfl rfl ?_)
        refine g_step rfl (s_val (v_len ty22 rfl (by first | rfl | assumption) (by first | exact List.length_map .. | rfl)) rfl rfl ?_)
        refine g_step rfl (s_val (v_move rfl) rfl rfl ?_)
        refine g_step rfl (s_val (v_sub_ rfl rfl (by omega)) rfl rfl ?_)
        refine g_step rfl (s_val (v_neq rfl rfl) rfl rfl ?_)
        refine g_nil ?_
        refine g_next hK13 ?_
        refine g_cond rfl (fun hc32 => ?_) (fun hc32 => ?_)
        · exfalso; (try simp only [decide_eq_true_eq, decide_eq_false_iff_not, Bool.not_eq_true', Bool.not_eq_false', Bool.not_eq_eq_eq_not, Bool.not_true, Bool.not_false, Bool.and_eq_true, Bool.or_eq_true, Bool.or_eq_false_iff, beq_iff_eq, beq_eq_false_iff_ne, ne_eq, Int.not_lt, Int.not_le, Decidable.not_not] at hc32); rw [List.length_drop] at hc32; omega
        · try simp only [decide_eq_true_eq, decide_eq_false_iff_not, Bool.not_eq_true', Bool.not_eq_false', Bool.not_eq_eq_eq_not, Bool.not_true, Bool.not_false, Bool.and_eq_true, Bool.or_eq_true, Bool.or_eq_false_iff, beq_iff_eq, beq_eq_false_iff_ne, ne_eq, Int.not_lt, Int.not_le, Decidable.not_not] at hc32
          refine g_skip ?_
          refine g_next hK12 ?_
          refine g_seq (fun K14 hK14 => ?_)
          refine g_region ?_
          refine g_step rfl (s_val (v_assign rfl) rfl rfl ?_)
          refine g_nil ?_
          refine g_next hK14 ?_
          refine g_seq (fun K15 hK15 => ?_)
          refine g_seq (fun K16 hK16 => ?_)
          refine g_region ?_
          refine g_step rfl (s_val (v_move rfl) rfl rfl ?_)
          refine g_step rfl (s_val (v_move rfl) rfl rfl ?_)
          refine g_step rfl (s_val (v_indexAddr ty22 ty3 rfl rfl (by first | rfl | assumption) (by first | rfl | exact (rfl : (0 : Int) = ((0 : Nat) : Int)) | exact (Int.toNat_of_nonneg (by omega)).symm) (by first | assumption | exact map_get (by assumption) | rfl) rfl) rfl rfl ?_)
          refine g_step rfl (s_val (by first | exact v_load ty3 rfl rfl (by first | rfl | assumption) (by first | assumption | exact map_get (by assumption) | rfl) rfl | exact v_load_box ty3 rfl rfl (by assumption) rfl) rfl rfl ?_)
          refine g_step rfl (s_val (v_geq rfl rfl) rfl rfl ?_)
          refine g_step rfl (s_val (v_move rfl) rfl rfl ?_)
          refine g_split 38 rfl (fun hg38 => ?_) (fun hg38 => ?_)
          · try simp only [decide_eq_true_eq, decide_eq_false_iff_not, Bool.not_eq_true', Bool.not_eq_false', Bool.not_eq_eq_eq_not, Bool.not_true, Bool.not_false, Bool.and_eq_true, Bool.or_eq_true, Bool.or_eq_false_iff, beq_iff_eq, beq_eq_false_iff_ne, ne_eq, Int.not_lt, Int.not_le, Decidable.not_not] at hg38
            refine g_step_yes (j := 5) (t := 38) rfl rfl rfl rfl (s_val (v_move rfl) rfl rfl ?_)
            refine g_step_yes (j := 5) (t := 38) rfl rfl rfl rfl (s_val (v_move rfl) rfl rfl ?_)
            refine g_step_yes (j := 5) (t := 38) rfl rfl rfl rfl (s_val (v_len ty22 rfl (by first | rfl | assumption) (by first | exact List.length_map .. | rfl)) rfl rfl ?_)
            refine g_step_yes (j := 5) (t := 38) rfl rfl rfl rfl (s_val (v_lss rfl rfl) rfl rfl ?_)
            refine g_step rfl (s_val (v_pick_t rfl rfl) rfl rfl ?_)
            refine g_nil ?_
            refine g_next hK16 ?_
            refine g_cond rfl (fun hc43 => ?_) (fun hc43 => ?_)
            · try simp only [decide_eq_true_eq, decide_eq_false_iff_not, Bool.not_eq_true', Bool.not_eq_false', Bool.not_eq_eq_eq_not, Bool.not_true, Bool.not_false, Bool.and_eq_true, Bool.or_eq_true, Bool.or_eq_false_iff, beq_iff_eq, beq_eq_false_iff_ne, ne_eq, Int.not_lt, Int.not_le, Decidable.not_not] at hc43
              obtain ⟨x, hx⟩ := get_some (l := l) (k := a) (by omega)
              obtain ⟨a2, ha2⟩ : ∃ a2, a2 = a + 1 := ⟨_, rfl⟩
              have hN : dNext (l.drop a) y = lowI x y := by rw [dNext_pos _ (by omega), drop_cons hx]; rfl
              have hR : dRest (l.drop a) y = l.drop a2 := by rw [dRest_pos _ (by omega), ha2, List.tail_drop]
              have ha2l : a2 ≤ l.length := by omega
              refine g_seq (fun K17 hK17 => ?_)
              refine g_draw (n := 10) (fun j => !([] : List Nat).contains j) rfl rfl ?_
              refine m_take 0 false rfl rfl (by kernel_rfl) (by kernel_rfl) (by kernel_rfl) (fun _ _ _ _ h => h) (v_move rfl) rfl rfl ?_
              refine m_take 1 false rfl rfl (by kernel_rfl) (by kernel_rfl) (by kernel_rfl) (fun _ _ _ _ h => h) (v_move rfl) rfl rfl ?_
              refine m_take 2 false rfl rfl (by kernel_rfl) (by kernel_rfl) (by kernel_rfl) (fun _ _ _ _ h => h) (v_indexAddr ty22 ty3 rfl rfl (by first | rfl | assumption) (by first | rfl | exact (rfl : (0 : Int) = ((0 : Nat) : Int)) | exact (Int.toNat_of_nonneg (by omega)).symm) (by first | assumption | exact map_get (by assumption) | rfl) rfl) rfl rfl ?_
              refine m_take 3 true rfl rfl (by kernel_rfl) (by kernel_rfl) (by kernel_rfl) (fun _ _ _ _ h => h) (by first | exact v_load ty3 rfl rfl (by first | rfl | assumption) (by first | assumption | exact map_get (by assumption) | rfl) rfl | exact v_load_box ty3 rfl rfl (by assumption) rfl) rfl rfl ?_
              refine m_take 4 false rfl rfl (by kernel_rfl) (by kernel_rfl) (by kernel_rfl) (fun _ _ _ _ h => h) (v_move rfl) rfl rfl ?_
              refine m_take 5 false rfl rfl (by kernel_rfl) (by kernel_rfl) (by kernel_rfl) (fun _ _ _ _ h => h) (v_move rfl) rfl rfl ?_
              refine m_take 6 false rfl rfl (by kernel_rfl) (by kernel_rfl) (by kernel_rfl) (fun _ _ _ _ h => h) (v_indexAddr ty22 ty3 rfl rfl (by first | rfl | assumption) (by first | rfl | exact (rfl : (0 : Int) = ((0 : Nat) : Int)) | exact (Int.toNat_of_nonneg (by omega)).symm) (by first | assumption | exact map_get (by assumption) | rfl) rfl) rfl rfl ?_
              refine m_take 7 true rfl rfl (by kernel_rfl) (by kernel_rfl) (by kernel_rfl) (fun _ _ _ _ h => h) (by first | exact v_load ty3 rfl rfl (by first | rfl | assumption) (by first | assumption | exact map_get (by assumption) | rfl) rfl | exact v_load_box ty3 rfl rfl (by assumption) rfl) rfl rfl ?_
              refine m_one 8 (by kernel_rfl) rfl rfl ?_
              refine sm_callp rfl rfl rfl (low_ok _ _ _ (by omega) (by omega)) ?_
              rintro _ rfl
              refine m_take 9 false rfl rfl (by kernel_rfl) (by kernel_rfl) (by kernel_rfl) (fun _ _ _ _ h => h) (v_assign rfl) rfl rfl ?_
              refine m_done (by kernel_rfl) ?_
              refine g_next hK17 ?_
              refine g_region ?_
              refine g_step rfl (s_val (v_move rfl) rfl rfl ?_)
              refine g_step rfl (s_val (v_add rfl rfl (by omega)) rfl rfl ?_)
              refine g_step rfl (s_val (v_assign rfl) rfl rfl ?_)
              refine g_nil ?_
              refine g_next hK15 ?_
              refine g_seq (fun K18 hK18 => ?_)
              refine g_region ?_
              refine g_step rfl (s_val (v_move rfl) rfl rfl ?_)
              refine g_step rfl (s_val (v_move rfl) rfl rfl ?_)
              refine g_step rfl (s_val (v_move rfl) rfl rfl ?_)
              refine g_step rfl (s_val (v_indexAddr ty22 ty3 rfl rfl (by first | rfl | assumption) (by first | rfl | exact (rfl : (0 : Int) = ((0 : Nat) : Int)) | exact (Int.toNat_of_nonneg (by omega)).symm) (by first | assumption | exact map_get (by assumption) | rfl) rfl) rfl rfl ?_)
              refine g_step rfl (s_val (by first | exact v_load ty3 rfl rfl (by first | rfl | assumption) (by first | assumption | exact map_get (by assumption) | rfl) rfl | exact v_load_box ty3 rfl rfl (by assumption) rfl) rfl rfl ?_)
              refine g_step rfl (s_call rfl rfl rfl (next_ok p (l.drop a) y _ hq (by omega)) (fun b hb => .inr (by subst hb; exact hw_p)) ?_)
              rintro n2 r2 effs2 hn2 hdom2 ⟨rfl, rfl⟩ hok2
              rw [hN, hR]
              generalize hE2 : setAll G [(p, .box (.agg [encI (l.drop a2)]))] = G2
              have hq2 : G2 p = some (.box (.agg [encI (l.drop a2)])) := hE2 ▸ AHeap.get_set _ _ _
              have hs2 : H.sub G2 := hE2 ▸ sub_set' hs hz0_p
              refine g_step rfl (s_val (v_move rfl) rfl rfl ?_)
              refine g_step rfl (s_val (v_neq rfl rfl) rfl rfl ?_)
              refine g_nil ?_
              refine g_next hK18 ?_
              refine g_cond rfl (fun hc62 => ?_) (fun hc62 => ?_)
              · exfalso; (try simp only [decide_eq_true_eq, decide_eq_false_iff_not, Bool.not_eq_true', Bool.not_eq_false', Bool.not_eq_eq_eq_not, Bool.not_true, Bool.not_false, Bool.and_eq_true, Bool.or_eq_true, Bool.or_eq_false_iff, beq_iff_eq, beq_eq_false_iff_ne, ne_eq, Int.not_lt, Int.not_le, Decidable.not_not] at hc62); first | done | simp at hc62
              · try simp only [decide_eq_true_eq, decide_eq_false_iff_not, Bool.not_eq_true', Bool.not_eq_false', Bool.not_eq_eq_eq_not, Bool.not_true, Bool.not_false, Bool.and_eq_true, Bool.or_eq_true, Bool.or_eq_false_iff, beq_iff_eq, beq_eq_false_iff_ne, ne_eq, Int.not_lt, Int.not_le, Decidable.not_not] at hc62
                refine g_skip ?_
                refine g_block_normal ?_
                refine g_next hK11 ?_
                refine g_region ?_
                refine g_step rfl (s_val (v_move rfl) rfl rfl ?_)
                refine g_step rfl (s_val (v_add rfl rfl (by omega)) rfl rfl ?_)
                refine g_step rfl (s_val (v_assign rfl) rfl rfl ?_)
                refine g_nil ?_
                refine g_keep [0, 1, 5, 6, 7] [] [] rfl rfl rfl rfl ?_
                exact g_round _ (by omega) ⟨k + 1, a2, by omega, by omega, rfl, by rw [ha2]; rfl, rfl, rfl, hq2, hs2⟩
            · try simp only [decide_eq_true_eq, decide_eq_false_iff_not, Bool.not_eq_true', Bool.not_eq_false', Bool.not_eq_eq_eq_not, Bool.not_true, Bool.not_false, Bool.and_eq_true, Bool.or_eq_true, Bool.or_eq_false_iff, beq_iff_eq, beq_eq_false_iff_ne, ne_eq, Int.not_lt, Int.not_le, Decidable.not_not] at hc43
              obtain ⟨a2, ha2⟩ : ∃ a2, a2 = a := ⟨_, rfl⟩
              have hd0 : l.drop a = [] := List.drop_of_length_le (by omega)
              have hN : dNext (l.drop a) y = 0 := by rw [dNext_pos _ (by omega), hd0]; exact lowI_zero _
              have hR : dRest (l.drop a) y = l.drop a2 := by rw [dRest_pos _ (by omega), ha2, hd0]; rfl
              have ha2l : a2 ≤ l.length := by omega
              refine g_skip ?_
              refine g_next hK15 ?_
              refine g_seq (fun K19 hK19 => ?_)
              refine g_region ?_
              refine g_step rfl (s_val (v_move rfl) rfl rfl ?_)
              refine g_step rfl (s_val (v_move rfl) rfl rfl ?_)
              refine g_step rfl (s_val (v_move rfl) rfl rfl ?_)
              refine g_step rfl (s_val (v_indexAddr ty22 ty3 rfl rfl (by first | rfl | assumption) (by first | rfl | exact (rfl : (0 : Int) = ((0 : Nat) : Int)) | exact (Int.toNat_of_nonneg (by omega)).symm) (by first | assumption | exact map_get (by assumption) | rfl) rfl) rfl rfl ?_)
              refine g_step rfl (s_val (by first | exact v_load ty3 rfl rfl (by first | rfl | assumption) (by first | assumption | exact map_get (by assumption) | rfl) rfl | exact v_load_box ty3 rfl rfl (by assumption) rfl) rfl rfl ?_)
              refine g_step rfl (s_call rfl rfl rfl (next_ok p (l.drop a) y _ hq (by omega)) (fun b hb => .inr (by subst hb; exact hw_p)) ?_)
              rintro n2 r2 effs2 hn2 hdom2 ⟨rfl, rfl⟩ hok2
              rw [hN, hR]
              generalize hE2 : setAll G [(p, .box (.agg [encI (l.drop a2)]))] = G2
              have hq2 : G2 p = some (.box (.agg [encI (l.drop a2)])) := hE2 ▸ AHeap.get_set _ _ _
              have hs2 : H.sub G2 := hE2 ▸ sub_set' hs hz0_p
              refine g_step rfl (s_val (v_move rfl) rfl rfl ?_)
              refine g_step rfl (s_val (v_neq rfl rfl) rfl rfl ?_)
              refine g_nil ?_
              refine g_next hK19 ?_
              refine g_cond rfl (fun hc62 => ?_) (fun hc62 => ?_)
              · exfalso; (try simp only [decide_eq_true_eq, decide_eq_false_iff_not, Bool.not_eq_true', Bool.not_eq_false', Bool.not_eq_eq_eq_not, Bool.not_true, Bool.not_false, Bool.and_eq_true, Bool.or_eq_true, Bool.or_eq_false_iff, beq_iff_eq, beq_eq_false_iff_ne, ne_eq, Int.not_lt, Int.not_le, Decidable.not_not] at hc62); first | done | simp at hc62
              · try simp only [decide_eq_true_eq, decide_eq_false_iff_not, Bool.not_eq_true', Bool.not_eq_false', Bool.not_eq_eq_eq_not, Bool.not_true, Bool.not_false, Bool.and_eq_true, Bool.or_eq_true, Bool.or_eq_false_iff, beq_iff_eq, beq_eq_false_iff_ne, ne_eq, Int.not_lt, Int.not_le, Decidable.not_not] at hc62
                refine g_skip ?_
                refine g_block_normal ?_
                refine g_next hK11 ?_
                refine g_region ?_
                refine g_step rfl (s_val (v_move rfl) rfl rfl ?_)
                refine g_step rfl (s_val (v_add rfl rfl (by omega)) rfl rfl ?_)
                refine g_step rfl (s_val (v_assign rfl) rfl rfl ?_)
                refine g_nil ?_
                refine g_keep [0, 1, 5, 6, 7] [] [] rfl rfl rfl rfl ?_
                exact g_round _ (by omega) ⟨k + 1, a2, by omega, by omega, rfl, by rw [ha2]; rfl, rfl, rfl, hq2, hs2⟩
          · try simp only [decide_eq_true_eq, decide_eq_false_iff_not, Bool.not_eq_true', Bool.not_eq_false', Bool.not_eq_eq_eq_not, Bool.not_true, Bool.not_false, Bool.and_eq_true, Bool.or_eq_true, Bool.or_eq_false_iff, beq_iff_eq, beq_eq_false_iff_ne, ne_eq, Int.not_lt, Int.not_le, Decidable.not_not] at hg38
            obtain ⟨a2, ha2⟩ : ∃ a2, a2 = a := ⟨_, rfl⟩
            have hN : dNext (l.drop a) y = 0 := by rw [dNext, if_pos (by omega)]
            have hR : dRest (l.drop a) y = l.drop a2 := by rw [dRest, if_pos (by omega), ha2]
            have ha2l : a2 ≤ l.length := by omega
            refine g_step_no (j := 5) (t := 38) rfl rfl rfl rfl rfl rfl rfl ?_
            refine g_step_no (j := 5) (t := 38) rfl rfl rfl rfl rfl rfl rfl ?_
            refine g_step_no (j := 5) (t := 38) rfl rfl rfl rfl rfl rfl rfl ?_
            refine g_step_no (j := 5) (t := 38) rfl rfl rfl rfl rfl rfl rfl ?_
            refine g_step rfl (s_val (v_pick_f rfl rfl) rfl rfl ?_)
            refine g_nil ?_
            refine g_next hK16 ?_
            refine g_cond rfl (fun h => by cases h) (fun _ => ?_)
            refine g_skip ?_
            refine g_next hK15 ?_
            refine g_seq (fun K20 hK20 => ?_)
            refine g_region ?_
            refine g_step rfl (s_val (v_move rfl) rfl rfl ?_)
            refine g_step rfl (s_val (v_move rfl) rfl rfl ?_)
            refine g_step rfl (s_val (v_move rfl) rfl rfl ?_)
            refine g_step rfl (s_val (v_indexAddr ty22 ty3 rfl rfl (by first | rfl | assumption) (by first | rfl | exact (rfl : (0 : Int) = ((0 : Nat) : Int)) | exact (Int.toNat_of_nonneg (by omega)).symm) (by first | assumption | exact map_get (by assumption) | rfl) rfl) rfl rfl ?_)
            refine g_step rfl (s_val (by first | exact v_load ty3 rfl rfl (by first | rfl | assumption) (by first | assumption | exact map_get (by assumption) | rfl) rfl | exact v_load_box ty3 rfl rfl (by assumption) rfl) rfl rfl ?_)
            refine g_step rfl (s_call rfl rfl rfl (next_ok p (l.drop a) y _ hq (by omega)) (fun b hb => .inr (by subst hb; exact hw_p)) ?_)
            rintro n2 r2 effs2 hn2 hdom2 ⟨rfl, rfl⟩ hok2
            rw [hN, hR]
            generalize hE2 : setAll G [(p, .box (.agg [encI (l.drop a2)]))] = G2
            have hq2 : G2 p = some (.box (.agg [encI (l.drop a2)])) := hE2 ▸ AHeap.get_set _ _ _
            have hs2 : H.sub G2 := hE2 ▸ sub_set' hs hz0_p
            refine g_step rfl (s_val (v_move rfl) rfl rfl ?_)
            refine g_step rfl (s_val (v_neq rfl rfl) rfl rfl ?_)
            refine g_nil ?_
            refine g_next hK20 ?_
            refine g_cond rfl (fun hc62 => ?_) (fun hc62 => ?_)
            · exfalso; (try simp only [decide_eq_true_eq, decide_eq_false_iff_not, Bool.not_eq_true', Bool.not_eq_false', Bool.not_eq_eq_eq_not, Bool.not_true, Bool.not_false, Bool.and_eq_true, Bool.or_eq_true, Bool.or_eq_false_iff, beq_iff_eq, beq_eq_false_iff_ne, ne_eq, Int.not_lt, Int.not_le, Decidable.not_not] at hc62); first | done | simp at hc62
            · try simp only [decide_eq_true_eq, decide_eq_false_iff_not, Bool.not_eq_true', Bool.not_eq_false', Bool.not_eq_eq_eq_not, Bool.not_true, Bool.not_false, Bool.and_eq_true, Bool.or_eq_true, Bool.or_eq_false_iff, beq_iff_eq, beq_eq_false_iff_ne, ne_eq, Int.not_lt, Int.not_le, Decidable.not_not] at hc62
              refine g_skip ?_
              refine g_block_normal ?_
              refine g_next hK11 ?_
              refine g_region ?_
              refine g_step rfl (s_val (v_move rfl) rfl rfl ?_)
              refine g_step rfl (s_val (v_add rfl rfl (by omega)) rfl rfl ?_)
              refine g_step rfl (s_val (v_assign rfl) rfl rfl ?_)
              refine g_nil ?_
              refine g_keep [0, 1, 5, 6, 7] [] [] rfl rfl rfl rfl ?_
              exact g_round _ (by omega) ⟨k + 1, a2, by omega, by omega, rfl, by rw [ha2]; rfl, rfl, rfl, hq2, hs2⟩
      · try simp only [decide_eq_true_eq, decide_eq_false_iff_not, Bool.not_eq_true', Bool.not_eq_false', Bool.not_eq_eq_eq_not, Bool.not_true, Bool.not_false, Bool.and_eq_true, Bool.or_eq_true, Bool.or_eq_false_iff, beq_iff_eq, beq_eq_false_iff_ne, ne_eq, Int.not_lt, Int.not_le, Decidable.not_not] at hc23
        refine g_exit ?_
        refine g_then_exit ?_
        refine g_then_exit ?_
        refine g_block_same ?_
        refine g_next hK7 ?_
        refine g_seq (fun K21 hK21 => ?_)
        refine g_region ?_
        refine g_step rfl (s_val (v_move rfl) rfl rfl ?_)
        refine g_step rfl (s_callp rfl rfl rfl (left_ok p (l.drop a) _ hq) ?_)
        rintro _ rfl
        refine g_step rfl (s_val (v_move rfl) rfl rfl ?_)
        refine g_step rfl (s_val (v_len ty22 rfl (by first | rfl | assumption) (by first | exact List.length_map .. | rfl)) rfl rfl ?_)
        refine g_step rfl (s_val (v_move rfl) rfl rfl ?_)
        refine g_step rfl (s_val (v_sub_ rfl rfl (by omega)) rfl rfl ?_)
        refine g_step rfl (s_val (v_eql rfl rfl) rfl rfl ?_)
        refine g_step rfl (s_val (v_move rfl) rfl rfl ?_)
        refine g_split 70 rfl (fun hg70 => ?_) (fun hg70 => ?_)
        · try simp only [decide_eq_true_eq, decide_eq_false_iff_not, Bool.not_eq_true', Bool.not_eq_false', Bool.not_eq_eq_eq_not, Bool.not_true, Bool.not_false, Bool.and_eq_true, Bool.or_eq_true, Bool.or_eq_false_iff, beq_iff_eq, beq_eq_false_iff_ne, ne_eq, Int.not_lt, Int.not_le, Decidable.not_not] at hg70
          refine g_step_yes (j := 7) (t := 70) rfl rfl rfl rfl (s_callp rfl rfl rfl (awake19_ok _) ?_)
          rintro _ rfl
          refine g_step rfl (s_val (v_pick_t rfl rfl) rfl rfl ?_)
          refine g_step rfl (s_val (v_assign rfl) rfl rfl ?_)
          refine g_nil ?_
          refine g_next hK21 ?_
          refine g_ret ?_
          refine g_end1 (.inl rfl) Try.results4 (.tmp rfl) [] (ASub.refl _) hs (fun p hp => by cases hp) ⟨rfl, ?_⟩
          rfl
        · exfalso; (try simp only [decide_eq_true_eq, decide_eq_false_iff_not, Bool.not_eq_true', Bool.not_eq_false', Bool.not_eq_eq_eq_not, Bool.not_true, Bool.not_false, Bool.and_eq_true, Bool.or_eq_true, Bool.or_eq_false_iff, beq_iff_eq, beq_eq_false_iff_ne, ne_eq, Int.not_lt, Int.not_le, Decidable.not_not] at hg70); rw [List.length_drop] at hg70; omega

theorem diceShuffles_ok (l d : List Int) (k : Int) (G : AHeap) : PCalls Try.prog 5 [encI l, encI d, .int .i64 k] G (fun r => r = .bool true) := by
  refine LCalls.intro 85 fi5 rfl Try.ntmps5 rfl (fun _ h => h.elim) (fun H hH w0 hw0 => ?_)
  refine g_seq (fun K0 hK0 => ?_)
  refine g_region ?_
  refine g_step rfl (s_val (v_assign rfl) rfl rfl ?_)
  refine g_nil ?_
  refine g_next hK0 ?_
  refine g_seq (fun K1 hK1 => ?_)
  refine g_seq (fun K2 hK2 => ?_)
  refine g_region ?_
  refine g_step rfl (s_val (v_move rfl) rfl rfl ?_)
  refine g_step rfl (s_val (v_len ty22 rfl (by first | rfl | assumption) (by first | exact List.length_map .. | rfl)) rfl rfl ?_)
  refine g_step rfl (s_val (v_gtr rfl rfl) rfl rfl ?_)
  refine g_step rfl (s_val (v_move rfl) rfl rfl ?_)
  refine g_split 15 rfl (fun hg15 => ?_) (fun hg15 => ?_)
  · try simp only [decide_eq_true_eq, decide_eq_false_iff_not, Bool.not_eq_true', Bool.not_eq_false', Bool.not_eq_eq_eq_not, Bool.not_true, Bool.not_false, Bool.and_eq_true, Bool.or_eq_true, Bool.or_eq_false_iff, beq_iff_eq, beq_eq_false_iff_ne, ne_eq, Int.not_lt, Int.not_le, Decidable.not_not] at hg15
    refine g_step_no (j := 3) (t := 15) rfl rfl rfl rfl rfl rfl rfl ?_
    refine g_step_no (j := 3) (t := 15) rfl rfl rfl rfl rfl rfl rfl ?_
    refine g_step_no (j := 3) (t := 15) rfl rfl rfl rfl rfl rfl rfl ?_
    refine g_step rfl (s_val (v_pick_t rfl rfl) rfl rfl ?_)
    refine g_nil ?_
    refine g_next hK2 ?_
    refine g_cond rfl (fun _ => ?_) (fun h => by cases h)
    refine g_seq (fun K3 hK3 => ?_)
    refine g_region ?_
    refine g_step rfl (s_callp rfl rfl rfl (awake19_ok _) ?_)
    rintro _ rfl
    refine g_step rfl (s_val (v_assign rfl) rfl rfl ?_)
    refine g_nil ?_
    refine g_next hK3 ?_
    refine g_ret ?_
    refine g_then_ret ?_
    refine g_end1 (.inl rfl) Try.results5 (.tmp rfl) [] (ASub.refl _) (AHeap.sub_refl _) (fun p hp => by cases hp) ⟨rfl, ?_⟩
    rfl
  · try simp only [decide_eq_true_eq, decide_eq_false_iff_not, Bool.not_eq_true', Bool.not_eq_false', Bool.not_eq_eq_eq_not, Bool.not_true, Bool.not_false, Bool.and_eq_true, Bool.or_eq_true, Bool.or_eq_false_iff, beq_iff_eq, beq_eq_false_iff_ne, ne_eq, Int.not_lt, Int.not_le, Decidable.not_not] at hg15
    refine g_step_yes (j := 3) (t := 15) rfl rfl rfl rfl (s_val (v_move rfl) rfl rfl ?_)
    refine g_step_yes (j := 3) (t := 15) rfl rfl rfl rfl (s_val (v_len ty22 rfl (by first | rfl | assumption) (by first | exact List.length_map .. | rfl)) rfl rfl ?_)
    refine g_step_yes (j := 3) (t := 15) rfl rfl rfl rfl (s_val (v_gtr rfl rfl) rfl rfl ?_)
    refine g_step rfl (s_val (v_pick_f rfl rfl) rfl rfl ?_)
    refine g_nil ?_
    refine g_next hK2 ?_
    refine g_cond rfl (fun hc19 => ?_) (fun hc19 => ?_)
    · try simp only [decide_eq_true_eq, decide_eq_false_iff_not, Bool.not_eq_true', Bool.not_eq_false', Bool.not_eq_eq_eq_not, Bool.not_true, Bool.not_false, Bool.and_eq_true, Bool.or_eq_true, Bool.or_eq_false_iff, beq_iff_eq, beq_eq_false_iff_ne, ne_eq, Int.not_lt, Int.not_le, Decidable.not_not] at hc19
      refine g_seq (fun K4 hK4 => ?_)
      refine g_region ?_
      refine g_step rfl (s_callp rfl rfl rfl (awake19_ok _) ?_)
      rintro _ rfl
      refine g_step rfl (s_val (v_assign rfl) rfl rfl ?_)
      refine g_nil ?_
      refine g_next hK4 ?_
      refine g_ret ?_
      refine g_then_ret ?_
      refine g_end1 (.inl rfl) Try.results5 (.tmp rfl) [] (ASub.refl _) (AHeap.sub_refl _) (fun p hp => by cases hp) ⟨rfl, ?_⟩
      rfl
    · try simp only [decide_eq_true_eq, decide_eq_false_iff_not, Bool.not_eq_true', Bool.not_eq_false', Bool.not_eq_eq_eq_not, Bool.not_true, Bool.not_false, Bool.and_eq_true, Bool.or_eq_true, Bool.or_eq_false_iff, beq_iff_eq, beq_eq_false_iff_ne, ne_eq, Int.not_lt, Int.not_le, Decidable.not_not] at hc19
      refine g_skip ?_
      refine g_next hK1 ?_
      refine g_seq (fun K5 hK5 => ?_)
      refine g_region ?_
      refine g_step rfl (s_val (v_move rfl) rfl rfl ?_)
      refine g_step rfl (s_val (v_move rfl) rfl rfl ?_)
      refine g_step rfl (s_callp rfl rfl rfl (shuffle19_ok l d _ _ _ rfl rfl (by omega)) ?_)
      rintro _ rfl
      refine g_step rfl (s_val (v_assign rfl) rfl rfl ?_)
      refine g_nil ?_
      refine g_next hK5 ?_
      refine g_seq (fun K6 hK6 => ?_)
      refine g_region ?_
      refine g_step rfl (s_val (v_move rfl) rfl rfl ?_)
      refine g_step rfl (s_call rfl rfl rfl (new_ok d _ _ rfl (by omega)) (fun _ h => h.elim) ?_)
      rintro n1 r1 effs1 hn1 hdom1 ⟨p, hp1, rfl, rfl⟩ hok1
      have hw_p : w0.heap.size ≤ p := Nat.le_trans hn1 hp1
      have hz_p := hdom1 _ hp1
      have hz0_p := sub_none (AHeap.sub_refl _) hz_p
      generalize hE_p : setAll H [(p, .box (.agg [encI d]))] = G1
      have hs_G1 : H.sub G1 := hE_p ▸ sub_set' (AHeap.sub_refl _) hz0_p
      have hq_p : G1 p = some (.box (.agg [encI d])) := hE_p ▸ AHeap.get_set _ _ _
      refine g_step rfl (s_val (v_assign rfl) rfl rfl ?_)
      refine g_nil ?_
      refine g_next hK6 ?_
      refine g_seq (fun K7 hK7 => ?_)
      refine g_seq (fun K8 hK8 => ?_)
      refine g_region ?_
      refine g_step rfl (s_val (v_move rfl) rfl rfl ?_)
      refine g_step rfl (s_val (v_move rfl) rfl rfl ?_)
      refine g_step rfl (s_call rfl rfl rfl (shuffle_ok p d l _ _ hq_p rfl (by omega)) (fun b hb => .inr (by subst hb; exact hw_p)) ?_)
      rintro n3 r3 effs3 hn3 hdom3 ⟨e3, he3, rfl⟩ hok3
      rw [setAll_append]
      generalize hE_G3 : setAll G1 [(p, .box (.agg [encI (shufRest l d)]))] = G3
      have hs_G3 : H.sub G3 := hE_G3 ▸ sub_set' hs_G1 hz0_p
      refine g_freeze 28 rfl (he3.own hn3 (fun b hb => by rw [← hE_G3]; exact (AHeap.get_set_ne _ _ (fun e => by rw [e] at hb; have := hdom3 p hb; rw [hq_p] at this; cases this)).trans (hdom3 b hb))) ?_
      have hgl : (shuffled l d).length = l.length := shuf_length _ _ _
      have hq3 : G3 p = some (.box (.agg [encI (shufRest l d)])) := hE_G3 ▸ AHeap.get_set _ _ _
      have hrl : (shufRest l d).length = d.length - (l.length - 1) := by rw [shufRest_eq, List.length_drop]
      refine g_step rfl (s_val (v_move rfl) rfl rfl ?_)
      refine g_step rfl (s_callp rfl rfl rfl (same19_ok (shuffled l d) (shuffled l d) _ _ _ rfl rfl (by omega)) ?_)
      rintro _ rfl
      refine g_step rfl (s_val (v_not rfl) rfl rfl ?_)
      refine g_nil ?_
      refine g_next hK8 ?_
      refine g_cond rfl (fun hc31 => ?_) (fun hc31 => ?_)
      · exfalso; (try simp only [decide_eq_true_eq, decide_eq_false_iff_not, Bool.not_eq_true', Bool.not_eq_false', Bool.not_eq_eq_eq_not, Bool.not_true, Bool.not_false, Bool.and_eq_true, Bool.or_eq_true, Bool.or_eq_false_iff, beq_iff_eq, beq_eq_false_iff_ne, ne_eq, Int.not_lt, Int.not_le, Decidable.not_not] at hc31); first | done | simp at hc31
      · try simp only [decide_eq_true_eq, decide_eq_false_iff_not, Bool.not_eq_true', Bool.not_eq_false', Bool.not_eq_eq_eq_not, Bool.not_true, Bool.not_false, Bool.and_eq_true, Bool.or_eq_true, Bool.or_eq_false_iff, beq_iff_eq, beq_eq_false_iff_ne, ne_eq, Int.not_lt, Int.not_le, Decidable.not_not] at hc31
        refine g_skip ?_
        refine g_next hK7 ?_
        refine g_seq (fun K9 hK9 => ?_)
        refine g_region ?_
        refine g_step rfl (s_val (v_move rfl) rfl rfl ?_)
        refine g_step rfl (s_val (v_len ty22 rfl (by first | rfl | assumption) (by first | exact List.length_map .. | rfl)) rfl rfl ?_)
        refine g_step rfl (s_val (v_sub_ rfl rfl (by omega)) rfl rfl ?_)
        refine g_step rfl (s_val (v_assign rfl) rfl rfl ?_)
        refine g_nil ?_
        refine g_next hK9 ?_
        refine g_seq (fun K10 hK10 => ?_)
        refine g_seq (fun K11 hK11 => ?_)
        refine g_region ?_
        refine g_step rfl (s_val (v_move rfl) rfl rfl ?_)
        refine g_step rfl (s_val (v_lss rfl rfl) rfl rfl ?_)
        refine g_nil ?_
        refine g_next hK11 ?_
        refine g_cond rfl (fun hc36 => ?_) (fun hc36 => ?_)
        · try simp only [decide_eq_true_eq, decide_eq_false_iff_not, Bool.not_eq_true', Bool.not_eq_false', Bool.not_eq_eq_eq_not, Bool.not_true, Bool.not_false, Bool.and_eq_true, Bool.or_eq_true, Bool.or_eq_false_iff, beq_iff_eq, beq_eq_false_iff_ne, ne_eq, Int.not_lt, Int.not_le, Decidable.not_not] at hc36
          refine g_region ?_
          refine g_step rfl (s_val (v_assign rfl) rfl rfl ?_)
          refine g_nil ?_
          refine g_next hK10 ?_
          refine g_seq (fun K12 hK12 => ?_)
          refine g_seq (fun K13 hK13 => ?_)
          refine g_region ?_
          refine g_step rfl (s_val (v_move rfl) rfl rfl ?_)
          refine g_step rfl (s_val (v_move rfl) rfl rfl ?_)
          refine g_step rfl (s_val (v_len ty22 rfl (by first | rfl | assumption) (by first | exact List.length_map .. | rfl)) rfl rfl ?_)
          refine g_step rfl (s_val (v_gtr rfl rfl) rfl rfl ?_)
          refine g_nil ?_
          refine g_next hK13 ?_
          refine g_cond rfl (fun hc40 => ?_) (fun hc40 => ?_)
          · try simp only [decide_eq_true_eq, decide_eq_false_iff_not, Bool.not_eq_true', Bool.not_eq_false', Bool.not_eq_eq_eq_not, Bool.not_true, Bool.not_false, Bool.and_eq_true, Bool.or_eq_true, Bool.or_eq_false_iff, beq_iff_eq, beq_eq_false_iff_ne, ne_eq, Int.not_lt, Int.not_le, Decidable.not_not] at hc40
            refine g_region ?_
            refine g_step rfl (s_val (v_move rfl) rfl rfl ?_)
            refine g_step rfl (s_val (v_len ty22 rfl (by first | rfl | assumption) (by first | exact List.length_map .. | rfl)) rfl rfl ?_)
            refine g_step rfl (s_val (v_assign rfl) rfl rfl ?_)
            refine g_nil ?_
            refine g_next hK12 ?_
            refine g_seq (fun K14 hK14 => ?_)
            refine g_seq (fun K15 hK15 => ?_)
            refine g_region ?_
            refine g_step rfl (s_val (v_move rfl) rfl rfl ?_)
            refine g_step rfl (s_callp rfl rfl rfl (left_ok p (shufRest l d) _ hq3) ?_)
            rintro _ rfl
            refine g_step rfl (s_val (v_move rfl) rfl rfl ?_)
            refine g_step rfl (s_val (v_len ty22 rfl (by first | rfl | assumption) (by first | exact List.length_map .. | rfl)) rfl rfl ?_)
            refine g_step rfl (s_val (v_move rfl) rfl rfl ?_)
            refine g_step rfl (s_val (v_sub_ rfl rfl (by omega)) rfl rfl ?_)
            refine g_step rfl (s_val (v_neq rfl rfl) rfl rfl ?_)
            refine g_nil ?_
            refine g_next hK15 ?_
            refine g_cond rfl (fun hc49 => ?_) (fun hc49 => ?_)
            · exfalso; (try simp only [decide_eq_true_eq, decide_eq_false_iff_not, Bool.not_eq_true', Bool.not_eq_false', Bool.not_eq_eq_eq_not, Bool.not_true, Bool.not_false, Bool.and_eq_true, Bool.or_eq_true, Bool.or_eq_false_iff, beq_iff_eq, beq_eq_false_iff_ne, ne_eq, Int.not_lt, Int.not_le, Decidable.not_not] at hc49); omega
            · try simp only [decide_eq_true_eq, decide_eq_false_iff_not, Bool.not_eq_true', Bool.not_eq_false', Bool.not_eq_eq_eq_not, Bool.not_true, Bool.not_false, Bool.and_eq_true, Bool.or_eq_true, Bool.or_eq_false_iff, beq_iff_eq, beq_eq_false_iff_ne, ne_eq, Int.not_lt, Int.not_le, Decidable.not_not] at hc49
              refine g_skip ?_
              refine g_next hK14 ?_
              refine g_seq (fun K16 hK16 => ?_)
              refine g_region ?_
              refine g_step rfl (s_val (v_move rfl) rfl rfl ?_)
              refine g_step rfl (s_call rfl rfl rfl (new_ok d _ _ rfl (by omega)) (fun _ h => h.elim) ?_)
              rintro n4 r4 effs4 hn4 hdom4 ⟨p2, hp4, rfl, rfl⟩ hok4
              have hw_p2 : w0.heap.size ≤ p2 := Nat.le_trans hn4 hp4
              have hz_p2 := hdom4 _ hp4
              have hz0_p2 := sub_none hs_G3 hz_p2
              generalize hE_p2 : setAll G3 [(p2, .box (.agg [encI d]))] = G4
              have hs_G4 : H.sub G4 := hE_p2 ▸ sub_set' hs_G3 hz0_p2
              have hq_p2 : G4 p2 = some (.box (.agg [encI d])) := hE_p2 ▸ AHeap.get_set _ _ _
              refine g_step rfl (s_val (v_assign rfl) rfl rfl ?_)
              refine g_nil ?_
              refine g_next hK16 ?_
              refine g_seq (fun K17 hK17 => ?_)
              refine g_region ?_
              refine g_step rfl (s_val (v_move rfl) rfl rfl ?_)
              refine g_step rfl (s_val (v_move rfl) rfl rfl ?_)
              refine g_step rfl (s_val (v_move rfl) rfl rfl ?_)
              refine g_step rfl (s_call rfl rfl rfl (some_ok p2 d l k _ _ hq_p2 rfl (by omega)) (fun b hb => .inr (by subst hb; exact hw_p2)) ?_)
              rintro n5 r5 effs5 hn5 hdom5 ⟨rfl, rfl⟩ hok5
              generalize hE_G5 : setAll G4 [(p2, .box (.agg [encI (someRest l d k)]))] = G5
              have hs_G5 : H.sub G5 := hE_G5 ▸ sub_set' hs_G4 hz0_p2
              have hq5 : G5 p2 = some (.box (.agg [encI (someRest l d k)])) := hE_G5 ▸ AHeap.get_set _ _ _
              refine g_step rfl (s_val (v_assign rfl) rfl rfl ?_)
              refine g_nil ?_
              refine g_next hK17 ?_
              refine g_seq (fun K18 hK18 => ?_)
              refine g_seq (fun K19 hK19 => ?_)
              refine g_region ?_
              refine g_step rfl (s_val (v_move rfl) rfl rfl ?_)
              refine g_step rfl (s_val (v_lss rfl rfl) rfl rfl ?_)
              refine g_nil ?_
              refine g_next hK19 ?_
              refine g_cond rfl (fun hc57 => ?_) (fun hc57 => ?_)
              · try simp only [decide_eq_true_eq, decide_eq_false_iff_not, Bool.not_eq_true', Bool.not_eq_false', Bool.not_eq_eq_eq_not, Bool.not_true, Bool.not_false, Bool.and_eq_true, Bool.or_eq_true, Bool.or_eq_false_iff, beq_iff_eq, beq_eq_false_iff_ne, ne_eq, Int.not_lt, Int.not_le, Decidable.not_not] at hc57
                have hsi : someI l d k = [] := by rw [someI, if_pos hc57]
                have hsr : someRest l d k = d := by rw [someRest, if_pos hc57]
                rw [hsr] at hq5
                rw [hsi]
                refine g_seq (fun K20 hK20 => ?_)
                refine g_region ?_
                refine g_step rfl (s_val (v_move rfl) rfl rfl ?_)
                refine g_step rfl (s_val (v_len ty22 rfl (by first | rfl | assumption) (by first | exact List.length_map .. | rfl)) rfl rfl ?_)
                refine g_step rfl (s_val (v_eql rfl rfl) rfl rfl ?_)
                refine g_step rfl (s_val (v_move rfl) rfl rfl ?_)
                refine g_split 61 rfl (fun hg61 => ?_) (fun hg61 => ?_)
                · try simp only [decide_eq_true_eq, decide_eq_false_iff_not, Bool.not_eq_true', Bool.not_eq_false', Bool.not_eq_eq_eq_not, Bool.not_true, Bool.not_false, Bool.and_eq_true, Bool.or_eq_true, Bool.or_eq_false_iff, beq_iff_eq, beq_eq_false_iff_ne, ne_eq, Int.not_lt, Int.not_le, Decidable.not_not] at hg61
                  refine g_step_yes (j := 3) (t := 61) rfl rfl rfl rfl (s_val (v_move rfl) rfl rfl ?_)
                  refine g_step_yes (j := 3) (t := 61) rfl rfl rfl rfl (s_callp rfl rfl rfl (left_ok p2 d _ hq5) ?_)
                  rintro _ rfl
                  refine g_step_yes (j := 3) (t := 61) rfl rfl rfl rfl (s_val (v_move rfl) rfl rfl ?_)
                  refine g_step_yes (j := 3) (t := 61) rfl rfl rfl rfl (s_val (v_len ty22 rfl (by first | rfl | assumption) (by first | exact List.length_map .. | rfl)) rfl rfl ?_)
                  refine g_step_yes (j := 3) (t := 61) rfl rfl rfl rfl (s_val (v_eql rfl rfl) rfl rfl ?_)
                  refine g_step rfl (s_val (v_pick_t rfl rfl) rfl rfl ?_)
                  refine g_step rfl (s_val (v_move rfl) rfl rfl ?_)
                  refine g_split 68 rfl (fun hg68 => ?_) (fun hg68 => ?_)
                  · try simp only [decide_eq_true_eq, decide_eq_false_iff_not, Bool.not_eq_true', Bool.not_eq_false', Bool.not_eq_eq_eq_not, Bool.not_true, Bool.not_false, Bool.and_eq_true, Bool.or_eq_true, Bool.or_eq_false_iff, beq_iff_eq, beq_eq_false_iff_ne, ne_eq, Int.not_lt, Int.not_le, Decidable.not_not] at hg68
                    refine g_step_yes (j := 10) (t := 68) rfl rfl rfl rfl (s_callp rfl rfl rfl (awake19_ok _) ?_)
                    rintro _ rfl
                    refine g_step rfl (s_val (v_pick_t rfl rfl) rfl rfl ?_)
                    refine g_step rfl (s_val (v_assign rfl) rfl rfl ?_)
                    refine g_nil ?_
                    refine g_next hK20 ?_
                    refine g_ret ?_
                    refine g_then_ret ?_
                    refine g_end1 (.inl rfl) Try.results5 (.tmp rfl) [] (ASub.refl _) hs_G5 (fun p hp => by cases hp) ⟨rfl, ?_⟩
                    rfl
                  · exfalso; (try simp only [decide_eq_true_eq, decide_eq_false_iff_not, Bool.not_eq_true', Bool.not_eq_false', Bool.not_eq_eq_eq_not, Bool.not_true, Bool.not_false, Bool.and_eq_true, Bool.or_eq_true, Bool.or_eq_false_iff, beq_iff_eq, beq_eq_false_iff_ne, ne_eq, Int.not_lt, Int.not_le, Decidable.not_not] at hg68); simp at hg68
                · exfalso; (try simp only [decide_eq_true_eq, decide_eq_false_iff_not, Bool.not_eq_true', Bool.not_eq_false', Bool.not_eq_eq_eq_not, Bool.not_true, Bool.not_false, Bool.and_eq_true, Bool.or_eq_true, Bool.or_eq_false_iff, beq_iff_eq, beq_eq_false_iff_ne, ne_eq, Int.not_lt, Int.not_le, Decidable.not_not] at hg61); simp at hg61
              · try simp only [decide_eq_true_eq, decide_eq_false_iff_not, Bool.not_eq_true', Bool.not_eq_false', Bool.not_eq_eq_eq_not, Bool.not_true, Bool.not_false, Bool.and_eq_true, Bool.or_eq_true, Bool.or_eq_false_iff, beq_iff_eq, beq_eq_false_iff_ne, ne_eq, Int.not_lt, Int.not_le, Decidable.not_not] at hc57
                have hsi : someI l d k = (shuffled l d).take (min k.toNat l.length) := by rw [someI, if_neg (by omega)]
                rw [hsi]
                refine g_skip ?_
                refine g_next hK18 ?_
                refine g_seq (fun K21 hK21 => ?_)
                refine g_seq (fun K22 hK22 => ?_)
                refine g_region ?_
                refine g_step rfl (s_val (v_move rfl) rfl rfl ?_)
                refine g_step rfl (s_val (v_move rfl) rfl rfl ?_)
                refine g_step rfl (s_val (v_len ty22 rfl (by first | rfl | assumption) (by first | exact List.length_map .. | rfl)) rfl rfl ?_)
                refine g_step rfl (s_val (v_gtr rfl rfl) rfl rfl ?_)
                refine g_nil ?_
                refine g_next hK22 ?_
                refine g_cond rfl (fun hc74 => ?_) (fun hc74 => ?_)
                · try simp only [decide_eq_true_eq, decide_eq_false_iff_not, Bool.not_eq_true', Bool.not_eq_false', Bool.not_eq_eq_eq_not, Bool.not_true, Bool.not_false, Bool.and_eq_true, Bool.or_eq_true, Bool.or_eq_false_iff, beq_iff_eq, beq_eq_false_iff_ne, ne_eq, Int.not_lt, Int.not_le, Decidable.not_not] at hc74
                  obtain ⟨kk, hkk⟩ : ∃ kk, kk = min k.toNat l.length := ⟨_, rfl⟩
                  have hkz : (l.length : Int) = (kk : Int) := by omega
                  refine g_region ?_
                  refine g_step rfl (s_val (v_move rfl) rfl rfl ?_)
                  refine g_step rfl (s_val (v_len ty22 rfl (by first | rfl | assumption) (by first | exact List.length_map .. | rfl)) rfl rfl ?_)
                  refine g_step rfl (s_val (v_assign rfl) rfl rfl ?_)
                  refine g_nil ?_
                  refine g_next hK21 ?_
                  refine g_seq (fun K23 hK23 => ?_)
                  refine g_region ?_
                  refine g_step rfl (s_val (v_move rfl) rfl rfl ?_)
                  refine g_step rfl (s_val (v_move rfl) rfl rfl ?_)
                  refine g_step rfl (s_val (v_move rfl) rfl rfl ?_)
                  refine g_step rfl (s_val (v_slice_imm (lo := 0) (hi := kk) (m := (((shuffled l d).take kk).map (.int .i64))) ty22 ty3 rfl rfl rfl (by first | rfl | (exact (rfl : (0 : Int) = ((0 : Nat) : Int))) | omega | (simp <;> omega)) hkz (by first | omega | (simp <;> omega)) (by simp; omega) (by refine Even.map _ ?_ _; intro _; rfl) (by simp [List.map_take])) rfl rfl ?_)
                  refine g_step rfl (s_callp rfl rfl rfl (same19_ok ((shuffled l d).take (min k.toNat l.length)) ((shuffled l d).take kk) _ _ _ rfl rfl (by simp; omega)) ?_)
                  rintro _ rfl
                  refine g_step rfl (s_val (v_move rfl) rfl rfl ?_)
                  refine g_split 82 rfl (fun hg82 => ?_) (fun hg82 => ?_)
                  · try simp only [decide_eq_true_eq, decide_eq_false_iff_not, Bool.not_eq_true', Bool.not_eq_false', Bool.not_eq_eq_eq_not, Bool.not_true, Bool.not_false, Bool.and_eq_true, Bool.or_eq_true, Bool.or_eq_false_iff, beq_iff_eq, beq_eq_false_iff_ne, ne_eq, Int.not_lt, Int.not_le, Decidable.not_not] at hg82
                    refine g_step_yes (j := 5) (t := 82) rfl rfl rfl rfl (s_callp rfl rfl rfl (awake19_ok _) ?_)
                    rintro _ rfl
                    refine g_step rfl (s_val (v_pick_t rfl rfl) rfl rfl ?_)
                    refine g_step rfl (s_val (v_assign rfl) rfl rfl ?_)
                    refine g_nil ?_
                    refine g_next hK23 ?_
                    refine g_ret ?_
                    refine g_end1 (.inl rfl) Try.results5 (.tmp rfl) [] (ASub.refl _) hs_G5 (fun p hp => by cases hp) ⟨rfl, ?_⟩
                    rfl
                  · exfalso; (try simp only [decide_eq_true_eq, decide_eq_false_iff_not, Bool.not_eq_true', Bool.not_eq_false', Bool.not_eq_eq_eq_not, Bool.not_true, Bool.not_false, Bool.and_eq_true, Bool.or_eq_true, Bool.or_eq_false_iff, beq_iff_eq, beq_eq_false_iff_ne, ne_eq, Int.not_lt, Int.not_le, Decidable.not_not] at hg82); first | done | (rw [hkk] at hg82; simp at hg82)
                · try simp only [decide_eq_true_eq, decide_eq_false_iff_not, Bool.not_eq_true', Bool.not_eq_false', Bool.not_eq_eq_eq_not, Bool.not_true, Bool.not_false, Bool.and_eq_true, Bool.or_eq_true, Bool.or_eq_false_iff, beq_iff_eq, beq_eq_false_iff_ne, ne_eq, Int.not_lt, Int.not_le, Decidable.not_not] at hc74
                  obtain ⟨kk, hkk⟩ : ∃ kk, kk = min k.toNat l.length := ⟨_, rfl⟩
                  have hkz : k = (kk : Int) := by omega
                  refine g_skip ?_
                  refine g_next hK21 ?_
                  refine g_seq (fun K24 hK24 => ?_)
                  refine g_region ?_
                  refine g_step rfl (s_val (v_move rfl) rfl rfl ?_)
                  refine g_step rfl (s_val (v_move rfl) rfl rfl ?_)
                  refine g_step rfl (s_val (v_move rfl) rfl rfl ?_)
                  refine g_step rfl (s_val (v_slice_imm (lo := 0) (hi := kk) (m := (((shuffled l d).take kk).map (.int .i64))) ty22 ty3 rfl rfl rfl (by first | rfl | (exact (rfl : (0 : Int) = ((0 : Nat) : Int))) | omega | (simp <;> omega)) hkz (by first | omega | (simp <;> omega)) (by simp; omega) (by refine Even.map _ ?_ _; intro _; rfl) (by simp [List.map_take])) rfl rfl ?_)
                  refine g_step rfl (s_callp rfl rfl rfl (same19_ok ((shuffled l d).take (min k.toNat l.length)) ((shuffled l d).take kk) _ _ _ rfl rfl (by simp; omega)) ?_)
                  rintro _ rfl
                  refine g_step rfl (s_val (v_move rfl) rfl rfl ?_)
                  refine g_split 82 rfl (fun hg82 => ?_) (fun hg82 => ?_)
                  · try simp only [decide_eq_true_eq, decide_eq_false_iff_not, Bool.not_eq_true', Bool.not_eq_false', Bool.not_eq_eq_eq_not, Bool.not_true, Bool.not_false, Bool.and_eq_true, Bool.or_eq_true, Bool.or_eq_false_iff, beq_iff_eq, beq_eq_false_iff_ne, ne_eq, Int.not_lt, Int.not_le, Decidable.not_not] at hg82
                    refine g_step_yes (j := 5) (t := 82) rfl rfl rfl rfl (s_callp rfl rfl rfl (awake19_ok _) ?_)
                    rintro _ rfl
                    refine g_step rfl (s_val (v_pick_t rfl rfl) rfl rfl ?_)
                    refine g_step rfl (s_val (v_assign rfl) rfl rfl ?_)
                    refine g_nil ?_
                    refine g_next hK24 ?_
                    refine g_ret ?_
                    refine g_end1 (.inl rfl) Try.results5 (.tmp rfl) [] (ASub.refl _) hs_G5 (fun p hp => by cases hp) ⟨rfl, ?_⟩
                    rfl
                  · exfalso; (try simp only [decide_eq_true_eq, decide_eq_false_iff_not, Bool.not_eq_true', Bool.not_eq_false', Bool.not_eq_eq_eq_not, Bool.not_true, Bool.not_false, Bool.and_eq_true, Bool.or_eq_true, Bool.or_eq_false_iff, beq_iff_eq, beq_eq_false_iff_ne, ne_eq, Int.not_lt, Int.not_le, Decidable.not_not] at hg82); first | done | (rw [hkk] at hg82; simp at hg82)
          · try simp only [decide_eq_true_eq, decide_eq_false_iff_not, Bool.not_eq_true', Bool.not_eq_false', Bool.not_eq_eq_eq_not, Bool.not_true, Bool.not_false, Bool.and_eq_true, Bool.or_eq_true, Bool.or_eq_false_iff, beq_iff_eq, beq_eq_false_iff_ne, ne_eq, Int.not_lt, Int.not_le, Decidable.not_not] at hc40
            refine g_skip ?_
            refine g_next hK12 ?_
            refine g_seq (fun K25 hK25 => ?_)
            refine g_seq (fun K26 hK26 => ?_)
            refine g_region ?_
            refine g_step rfl (s_val (v_move rfl) rfl rfl ?_)
            refine g_step rfl (s_callp rfl rfl rfl (left_ok p (shufRest l d) _ hq3) ?_)
            rintro _ rfl
            refine g_step rfl (s_val (v_move rfl) rfl rfl ?_)
            refine g_step rfl (s_val (v_len ty22 rfl (by first | rfl | assumption) (by first | exact List.length_map .. | rfl)) rfl rfl ?_)
            refine g_step rfl (s_val (v_move rfl) rfl rfl ?_)
            refine g_step rfl (s_val (v_sub_ rfl rfl (by omega)) rfl rfl ?_)
            refine g_step rfl (s_val (v_neq rfl rfl) rfl rfl ?_)
            refine g_nil ?_
            refine g_next hK26 ?_
            refine g_cond rfl (fun hc49 => ?_) (fun hc49 => ?_)
            · exfalso; (try simp only [decide_eq_true_eq, decide_eq_false_iff_not, Bool.not_eq_true', Bool.not_eq_false', Bool.not_eq_eq_eq_not, Bool.not_true, Bool.not_false, Bool.and_eq_true, Bool.or_eq_true, Bool.or_eq_false_iff, beq_iff_eq, beq_eq_false_iff_ne, ne_eq, Int.not_lt, Int.not_le, Decidable.not_not] at hc49); omega
            · try simp only [decide_eq_true_eq, decide_eq_false_iff_not, Bool.not_eq_true', Bool.not_eq_false', Bool.not_eq_eq_eq_not, Bool.not_true, Bool.not_false, Bool.and_eq_true, Bool.or_eq_true, Bool.or_eq_false_iff, beq_iff_eq, beq_eq_false_iff_ne, ne_eq, Int.not_lt, Int.not_le, Decidable.not_not] at hc49
              refine g_skip ?_
              refine g_next hK25 ?_
              refine g_seq (fun K27 hK27 => ?_)
              refine g_region ?_
              refine g_step rfl (s_val (v_move rfl) rfl rfl ?_)
              refine g_step rfl (s_call rfl rfl rfl (new_ok d _ _ rfl (by omega)) (fun _ h => h.elim) ?_)
              rintro n4 r4 effs4 hn4 hdom4 ⟨p2, hp4, rfl, rfl⟩ hok4
              have hw_p2 : w0.heap.size ≤ p2 := Nat.le_trans hn4 hp4
              have hz_p2 := hdom4 _ hp4
              have hz0_p2 := sub_none hs_G3 hz_p2
              generalize hE_p2 : setAll G3 [(p2, .box (.agg [encI d]))] = G4
              have hs_G4 : H.sub G4 := hE_p2 ▸ sub_set' hs_G3 hz0_p2
              have hq_p2 : G4 p2 = some (.box (.agg [encI d])) := hE_p2 ▸ AHeap.get_set _ _ _
              refine g_step rfl (s_val (v_assign rfl) rfl rfl ?_)
              refine g_nil ?_
              refine g_next hK27 ?_
              refine g_seq (fun K28 hK28 => ?_)
              refine g_region ?_
              refine g_step rfl (s_val (v_move rfl) rfl rfl ?_)
              refine g_step rfl (s_val (v_move rfl) rfl rfl ?_)
              refine g_step rfl (s_val (v_move rfl) rfl rfl ?_)
              refine g_step rfl (s_call rfl rfl rfl (some_ok p2 d l k _ _ hq_p2 rfl (by omega)) (fun b hb => .inr (by subst hb; exact hw_p2)) ?_)
              rintro n5 r5 effs5 hn5 hdom5 ⟨rfl, rfl⟩ hok5
              generalize hE_G5 : setAll G4 [(p2, .box (.agg [encI (someRest l d k)]))] = G5
              have hs_G5 : H.sub G5 := hE_G5 ▸ sub_set' hs_G4 hz0_p2
              have hq5 : G5 p2 = some (.box (.agg [encI (someRest l d k)])) := hE_G5 ▸ AHeap.get_set _ _ _
              refine g_step rfl (s_val (v_assign rfl) rfl rfl ?_)
              refine g_nil ?_
              refine g_next hK28 ?_
              refine g_seq (fun K29 hK29 => ?_)
              refine g_seq (fun K30 hK30 => ?_)
              refine g_region ?_
              refine g_step rfl (s_val (v_move rfl) rfl rfl ?_)
              refine g_step rfl (s_val (v_lss rfl rfl) rfl rfl ?_)
              refine g_nil ?_
              refine g_next hK30 ?_
              refine g_cond rfl (fun hc57 => ?_) (fun hc57 => ?_)
              · try simp only [decide_eq_true_eq, decide_eq_false_iff_not, Bool.not_eq_true', Bool.not_eq_false', Bool.not_eq_eq_eq_not, Bool.not_true, Bool.not_false, Bool.and_eq_true, Bool.or_eq_true, Bool.or_eq_false_iff, beq_iff_eq, beq_eq_false_iff_ne, ne_eq, Int.not_lt, Int.not_le, Decidable.not_not] at hc57
                have hsi : someI l d k = [] := by rw [someI, if_pos hc57]
                have hsr : someRest l d k = d := by rw [someRest, if_pos hc57]
                rw [hsr] at hq5
                rw [hsi]
                refine g_seq (fun K31 hK31 => ?_)
                refine g_region ?_
                refine g_step rfl (s_val (v_move rfl) rfl rfl ?_)
                refine g_step rfl (s_val (v_len ty22 rfl (by first | rfl | assumption) (by first | exact List.length_map .. | rfl)) rfl rfl ?_)
                refine g_step rfl (s_val (v_eql rfl rfl) rfl rfl ?_)
                refine g_step rfl (s_val (v_move rfl) rfl rfl ?_)
                refine g_split 61 rfl (fun hg61 => ?_) (fun hg61 => ?_)
                · try simp only [decide_eq_true_eq, decide_eq_false_iff_not, Bool.not_eq_true', Bool.not_eq_false', Bool.not_eq_eq_eq_not, Bool.not_true, Bool.not_false, Bool.and_eq_true, Bool.or_eq_true, Bool.or_eq_false_iff, beq_iff_eq, beq_eq_false_iff_ne, ne_eq, Int.not_lt, Int.not_le, Decidable.not_not] at hg61
                  refine g_step_yes (j := 3) (t := 61) rfl rfl rfl rfl (s_val (v_move rfl) rfl rfl ?_)
                  refine g_step_yes (j := 3) (t := 61) rfl rfl rfl rfl (s_callp rfl rfl rfl (left_ok p2 d _ hq5) ?_)
                  rintro _ rfl
                  refine g_step_yes (j := 3) (t := 61) rfl rfl rfl rfl (s_val (v_move rfl) rfl rfl ?_)
                  refine g_step_yes (j := 3) (t := 61) rfl rfl rfl rfl (s_val (v_len ty22 rfl (by first | rfl | assumption) (by first | exact List.length_map .. | rfl)) rfl rfl ?_)
                  refine g_step_yes (j := 3) (t := 61) rfl rfl rfl rfl (s_val (v_eql rfl rfl) rfl rfl ?_)
                  refine g_step rfl (s_val (v_pick_t rfl rfl) rfl rfl ?_)
                  refine g_step rfl (s_val (v_move rfl) rfl rfl ?_)
                  refine g_split 68 rfl (fun hg68 => ?_) (fun hg68 => ?_)
                  · try simp only [decide_eq_true_eq, decide_eq_false_iff_not, Bool.not_eq_true', Bool.not_eq_false', Bool.not_eq_eq_eq_not, Bool.not_true, Bool.not_false, Bool.and_eq_true, Bool.or_eq_true, Bool.or_eq_false_iff, beq_iff_eq, beq_eq_false_iff_ne, ne_eq, Int.not_lt, Int.not_le, Decidable.not_not] at hg68
                    refine g_step_yes (j := 10) (t := 68) rfl rfl rfl rfl (s_callp rfl rfl rfl (awake19_ok _) ?_)
                    rintro _ rfl
                    refine g_step rfl (s_val (v_pick_t rfl rfl) rfl rfl ?_)
                    refine g_step rfl (s_val (v_assign rfl) rfl rfl ?_)
                    refine g_nil ?_
                    refine g_next hK31 ?_
                    refine g_ret ?_
                    refine g_then_ret ?_
                    refine g_end1 (.inl rfl) Try.results5 (.tmp rfl) [] (ASub.refl _) hs_G5 (fun p hp => by cases hp) ⟨rfl, ?_⟩
                    rfl
                  · exfalso; (try simp only [decide_eq_true_eq, decide_eq_false_iff_not, Bool.not_eq_true', Bool.not_eq_false', Bool.not_eq_eq_eq_not, Bool.not_true, Bool.not_false, Bool.and_eq_true, Bool.or_eq_true, Bool.or_eq_false_iff, beq_iff_eq, beq_eq_false_iff_ne, ne_eq, Int.not_lt, Int.not_le, Decidable.not_not] at hg68); simp at hg68
                · exfalso; (try simp only [decide_eq_true_eq, decide_eq_false_iff_not, Bool.not_eq_true', Bool.not_eq_false', Bool.not_eq_eq_eq_not, Bool.not_true, Bool.not_false, Bool.and_eq_true, Bool.or_eq_true, Bool.or_eq_false_iff, beq_iff_eq, beq_eq_false_iff_ne, ne_eq, Int.not_lt, Int.not_le, Decidable.not_not] at hg61); simp at hg61
              · try simp only [decide_eq_true_eq, decide_eq_false_iff_not, Bool.not_eq_true', Bool.not_eq_false', Bool.not_eq_eq_eq_not, Bool.not_true, Bool.not_false, Bool.and_eq_true, Bool.or_eq_true, Bool.or_eq_false_iff, beq_iff_eq, beq_eq_false_iff_ne, ne_eq, Int.not_lt, Int.not_le, Decidable.not_not] at hc57
                have hsi : someI l d k = (shuffled l d).take (min k.toNat l.length) := by rw [someI, if_neg (by omega)]
                rw [hsi]
                refine g_skip ?_
                refine g_next hK29 ?_
                refine g_seq (fun K32 hK32 => ?_)
                refine g_seq (fun K33 hK33 => ?_)
                refine g_region ?_
                refine g_step rfl (s_val (v_move rfl) rfl rfl ?_)
                refine g_step rfl (s_val (v_move rfl) rfl rfl ?_)
                refine g_step rfl (s_val (v_len ty22 rfl (by first | rfl | assumption) (by first | exact List.length_map .. | rfl)) rfl rfl ?_)
                refine g_step rfl (s_val (v_gtr rfl rfl) rfl rfl ?_)
                refine g_nil ?_
                refine g_next hK33 ?_
                refine g_cond rfl (fun hc74 => ?_) (fun hc74 => ?_)
                · try simp only [decide_eq_true_eq, decide_eq_false_iff_not, Bool.not_eq_true', Bool.not_eq_false', Bool.not_eq_eq_eq_not, Bool.not_true, Bool.not_false, Bool.and_eq_true, Bool.or_eq_true, Bool.or_eq_false_iff, beq_iff_eq, beq_eq_false_iff_ne, ne_eq, Int.not_lt, Int.not_le, Decidable.not_not] at hc74
                  obtain ⟨kk, hkk⟩ : ∃ kk, kk = min k.toNat l.length := ⟨_, rfl⟩
                  have hkz : (l.length : Int) = (kk : Int) := by omega
                  refine g_region ?_
                  refine g_step rfl (s_val (v_move rfl) rfl rfl ?_)
                  refine g_step rfl (s_val (v_len ty22 rfl (by first | rfl | assumption) (by first | exact List.length_map .. | rfl)) rfl rfl ?_)
                  refine g_step rfl (s_val (v_assign rfl) rfl rfl ?_)
                  refine g_nil ?_
                  refine g_next hK32 ?_
                  refine g_seq (fun K34 hK34 => ?_)
                  refine g_region ?_
                  refine g_step rfl (s_val (v_move rfl) rfl rfl ?_)
                  refine g_step rfl (s_val (v_move rfl) rfl rfl ?_)
                  refine g_step rfl (s_val (v_move rfl) rfl rfl ?_)
                  refine g_step rfl (s_val (v_slice_imm (lo := 0) (hi := kk) (m := (((shuffled l d).take kk).map (.int .i64))) ty22 ty3 rfl rfl rfl (by first | rfl | (exact (rfl : (0 : Int) = ((0 : Nat) : Int))) | omega | (simp <;> omega)) hkz (by first | omega | (simp <;> omega)) (by simp; omega) (by refine Even.map _ ?_ _; intro _; rfl) (by simp [List.map_take])) rfl rfl ?_)
                  refine g_step rfl (s_callp rfl rfl rfl (same19_ok ((shuffled l d).take (min k.toNat l.length)) ((shuffled l d).take kk) _ _ _ rfl rfl (by simp; omega)) ?_)
                  rintro _ rfl
                  refine g_step rfl (s_val (v_move rfl) rfl rfl ?_)
                  refine g_split 82 rfl (fun hg82 => ?_) (fun hg82 => ?_)
                  · try simp only [decide_eq_true_eq, decide_eq_false_iff_not, Bool.not_eq_true', Bool.not_eq_false', Bool.not_eq_eq_eq_not, Bool.not_true, Bool.not_false, Bool.and_eq_true, Bool.or_eq_true, Bool.or_eq_false_iff, beq_iff_eq, beq_eq_false_iff_ne, ne_eq, Int.not_lt, Int.not_le, Decidable.not_not] at hg82
                    refine g_step_yes (j := 5) (t := 82) rfl rfl rfl rfl (s_callp rfl rfl rfl (awake19_ok _) ?_)
                    rintro _ rfl
                    refine g_step rfl (s_val (v_pick_t rfl rfl) rfl rfl ?_)
                    refine g_step rfl (s_val (v_assign rfl) rfl rfl ?_)
                    refine g_nil ?_
                    refine g_next hK34 ?_
                    refine g_ret ?_
                    refine g_end1 (.inl rfl) Try.results5 (.tmp rfl) [] (ASub.refl _) hs_G5 (fun p hp => by cases hp) ⟨rfl, ?_⟩
                    rfl
                  · exfalso; (try simp only [decide_eq_true_eq, decide_eq_false_iff_not, Bool.not_eq_true', Bool.not_eq_false', Bool.not_eq_eq_eq_not, Bool.not_true, Bool.not_false, Bool.and_eq_true, Bool.or_eq_true, Bool.or_eq_false_iff, beq_iff_eq, beq_eq_false_iff_ne, ne_eq, Int.not_lt, Int.not_le, Decidable.not_not] at hg82); first | done | (rw [hkk] at hg82; simp at hg82)
                · try simp only [decide_eq_true_eq, decide_eq_false_iff_not, Bool.not_eq_true', Bool.not_eq_false', Bool.not_eq_eq_eq_not, Bool.not_true, Bool.not_false, Bool.and_eq_true, Bool.or_eq_true, Bool.or_eq_false_iff, beq_iff_eq, beq_eq_false_iff_ne, ne_eq, Int.not_lt, Int.not_le, Decidable.not_not] at hc74
                  obtain ⟨kk, hkk⟩ : ∃ kk, kk = min k.toNat l.length := ⟨_, rfl⟩
                  have hkz : k = (kk : Int) := by omega
                  refine g_skip ?_
                  refine g_next hK32 ?_
                  refine g_seq (fun K35 hK35 => ?_)
                  refine g_region ?_
                  refine g_step rfl (s_val (v_move rfl) rfl rfl ?_)
                  refine g_step rfl (s_val (v_move rfl) rfl rfl ?_)
                  refine g_step rfl (s_val (v_move rfl) rfl rfl ?_)
                  refine g_step rfl (s_val (v_slice_imm (lo := 0) (hi := kk) (m := (((shuffled l d).take kk).map (.int .i64))) ty22 ty3 rfl rfl rfl (by first | rfl | (exact (rfl : (0 : Int) = ((0 : Nat) : Int))) | omega | (simp <;> omega)) hkz (by first | omega | (simp <;> omega)) (by simp; omega) (by refine Even.map _ ?_ _; intro _; rfl) (by simp [List.map_take])) rfl rfl ?_)
                  refine g_step rfl (s_callp rfl rfl rfl (same19_ok ((shuffled l d).take (min k.toNat l.length)) ((shuffled l d).take kk) _ _ _ rfl rfl (by simp; omega)) ?_)
                  rintro _ rfl
                  refine g_step rfl (s_val (v_move rfl) rfl rfl ?_)
                  refine g_split 82 rfl (fun hg82 => ?_) (fun hg82 => ?_)
                  · try simp only [decide_eq_true_eq, decide_eq_false_iff_not, Bool.not_eq_true', Bool.not_eq_false', Bool.not_eq_eq_eq_not, Bool.not_true, Bool.not_false, Bool.and_eq_true, Bool.or_eq_true, Bool.or_eq_false_iff, beq_iff_eq, beq_eq_false_iff_ne, ne_eq, Int.not_lt, Int.not_le, Decidable.not_not] at hg82
                    refine g_step_yes (j := 5) (t := 82) rfl rfl rfl rfl (s_callp rfl rfl rfl (awake19_ok _) ?_)
                    rintro _ rfl
                    refine g_step rfl (s_val (v_pick_t rfl rfl) rfl rfl ?_)
                    refine g_step rfl (s_val (v_assign rfl) rfl rfl ?_)
                    refine g_nil ?_
                    refine g_next hK35 ?_
                    refine g_ret ?_
                    refine g_end1 (.inl rfl) Try.results5 (.tmp rfl) [] (ASub.refl _) hs_G5 (fun p hp => by cases hp) ⟨rfl, ?_⟩
                    rfl
                  · exfalso; (try simp only [decide_eq_true_eq, decide_eq_false_iff_not, Bool.not_eq_true', Bool.not_eq_false', Bool.not_eq_eq_eq_not, Bool.not_true, Bool.not_false, Bool.and_eq_true, Bool.or_eq_true, Bool.or_eq_false_iff, beq_iff_eq, beq_eq_false_iff_ne, ne_eq, Int.not_lt, Int.not_le, Decidable.not_not] at hg82); first | done | (rw [hkk] at hg82; simp at hg82)
        · try simp only [decide_eq_true_eq, decide_eq_false_iff_not, Bool.not_eq_true', Bool.not_eq_false', Bool.not_eq_eq_eq_not, Bool.not_true, Bool.not_false, Bool.and_eq_true, Bool.or_eq_true, Bool.or_eq_false_iff, beq_iff_eq, beq_eq_false_iff_ne, ne_eq, Int.not_lt, Int.not_le, Decidable.not_not] at hc36
          refine g_skip ?_
          refine g_next hK10 ?_
          refine g_seq (fun K36 hK36 => ?_)
          refine g_seq (fun K37 hK37 => ?_)
          refine g_region ?_
          refine g_step rfl (s_val (v_move rfl) rfl rfl ?_)
          refine g_step rfl (s_val (v_move rfl) rfl rfl ?_)
          refine g_step rfl (s_val (v_len ty22 rfl (by first | rfl | assumption) (by first | exact List.length_map .. | rfl)) rfl rfl ?_)
          refine g_step rfl (s_val (v_gtr rfl rfl) rfl rfl ?_)
          refine g_nil ?_
          refine g_next hK37 ?_
          refine g_cond rfl (fun hc40 => ?_) (fun hc40 => ?_)
          · try simp only [decide_eq_true_eq, decide_eq_false_iff_not, Bool.not_eq_true', Bool.not_eq_false', Bool.not_eq_eq_eq_not, Bool.not_true, Bool.not_false, Bool.and_eq_true, Bool.or_eq_true, Bool.or_eq_false_iff, beq_iff_eq, beq_eq_false_iff_ne, ne_eq, Int.not_lt, Int.not_le, Decidable.not_not] at hc40
            refine g_region ?_
            refine g_step rfl (s_val (v_move rfl) rfl rfl ?_)
            refine g_step rfl (s_val (v_len ty22 rfl (by first | rfl | assumption) (by first | exact List.length_map .. | rfl)) rfl rfl ?_)
            refine g_step rfl (s_val (v_assign rfl) rfl rfl ?_)
            refine g_nil ?_
            refine g_next hK36 ?_
            refine g_seq (fun K38 hK38 => ?_)
            refine g_seq (fun K39 hK39 => ?_)
            refine g_region ?_
            refine g_step rfl (s_val (v_move rfl) rfl rfl ?_)
            refine g_step rfl (s_callp rfl rfl rfl (left_ok p (shufRest l d) _ hq3) ?_)
            rintro _ rfl
            refine g_step rfl (s_val (v_move rfl) rfl rfl ?_)
            refine g_step rfl (s_val (v_len ty22 rfl (by first | rfl | assumption) (by first | exact List.length_map .. | rfl)) rfl rfl ?_)
            refine g_step rfl (s_val (v_move rfl) rfl rfl ?_)
            refine g_step rfl (s_val (v_sub_ rfl rfl (by omega)) rfl rfl ?_)
            refine g_step rfl (s_val (v_neq rfl rfl) rfl rfl ?_)
            refine g_nil ?_
            refine g_next hK39 ?_
            refine g_cond rfl (fun hc49 => ?_) (fun hc49 => ?_)
            · exfalso; (try simp only [decide_eq_true_eq, decide_eq_false_iff_not, Bool.not_eq_true', Bool.not_eq_false', Bool.not_eq_eq_eq_not, Bool.not_true, Bool.not_false, Bool.and_eq_true, Bool.or_eq_true, Bool.or_eq_false_iff, beq_iff_eq, beq_eq_false_iff_ne, ne_eq, Int.not_lt, Int.not_le, Decidable.not_not] at hc49); omega
            · try simp only [decide_eq_true_eq, decide_eq_false_iff_not, Bool.not_eq_true', Bool.not_eq_false', Bool.not_eq_eq_eq_not, Bool.not_true, Bool.not_false, Bool.and_eq_true, Bool.or_eq_true, Bool.or_eq_false_iff, beq_iff_eq, beq_eq_false_iff_ne, ne_eq, Int.not_lt, Int.not_le, Decidable.not_not] at hc49
              refine g_skip ?_
              refine g_next hK38 ?_
              refine g_seq (fun K40 hK40 => ?_)
              refine g_region ?_
              refine g_step rfl (s_val (v_move rfl) rfl rfl ?_)
              refine g_step rfl (s_call rfl rfl rfl (new_ok d _ _ rfl (by omega)) (fun _ h => h.elim) ?_)
              rintro n4 r4 effs4 hn4 hdom4 ⟨p2, hp4, rfl, rfl⟩ hok4
              have hw_p2 : w0.heap.size ≤ p2 := Nat.le_trans hn4 hp4
              have hz_p2 := hdom4 _ hp4
              have hz0_p2 := sub_none hs_G3 hz_p2
              generalize hE_p2 : setAll G3 [(p2, .box (.agg [encI d]))] = G4
              have hs_G4 : H.sub G4 := hE_p2 ▸ sub_set' hs_G3 hz0_p2
              have hq_p2 : G4 p2 = some (.box (.agg [encI d])) := hE_p2 ▸ AHeap.get_set _ _ _
              refine g_step rfl (s_val (v_assign rfl) rfl rfl ?_)
              refine g_nil ?_
              refine g_next hK40 ?_
              refine g_seq (fun K41 hK41 => ?_)
              refine g_region ?_
              refine g_step rfl (s_val (v_move rfl) rfl rfl ?_)
              refine g_step rfl (s_val (v_move rfl) rfl rfl ?_)
              refine g_step rfl (s_val (v_move rfl) rfl rfl ?_)
              refine g_step rfl (s_call rfl rfl rfl (some_ok p2 d l k _ _ hq_p2 rfl (by omega)) (fun b hb => .inr (by subst hb; exact hw_p2)) ?_)
              rintro n5 r5 effs5 hn5 hdom5 ⟨rfl, rfl⟩ hok5
              generalize hE_G5 : setAll G4 [(p2, .box (.agg [encI (someRest l d k)]))] = G5
              have hs_G5 : H.sub G5 := hE_G5 ▸ sub_set' hs_G4 hz0_p2
              have hq5 : G5 p2 = some (.box (.agg [encI (someRest l d k)])) := hE_G5 ▸ AHeap.get_set _ _ _
              refine g_step rfl (s_val (v_assign rfl) rfl rfl ?_)
              refine g_nil ?_
              refine g_next hK41 ?_
              refine g_seq (fun K42 hK42 => ?_)
              refine g_seq (fun K43 hK43 => ?_)
              refine g_region ?_
              refine g_step rfl (s_val (v_move rfl) rfl rfl ?_)
              refine g_step rfl (s_val (v_lss rfl rfl) rfl rfl ?_)
              refine g_nil ?_
              refine g_next hK43 ?_
              refine g_cond rfl (fun hc57 => ?_) (fun hc57 => ?_)
              · try simp only [decide_eq_true_eq, decide_eq_false_iff_not, Bool.not_eq_true', Bool.not_eq_false', Bool.not_eq_eq_eq_not, Bool.not_true, Bool.not_false, Bool.and_eq_true, Bool.or_eq_true, Bool.or_eq_false_iff, beq_iff_eq, beq_eq_false_iff_ne, ne_eq, Int.not_lt, Int.not_le, Decidable.not_not] at hc57
                have hsi : someI l d k = [] := by rw [someI, if_pos hc57]
                have hsr : someRest l d k = d := by rw [someRest, if_pos hc57]
                rw [hsr] at hq5
                rw [hsi]
                refine g_seq (fun K44 hK44 => ?_)
                refine g_region ?_
                refine g_step rfl (s_val (v_move rfl) rfl rfl ?_)
                refine g_step rfl (s_val (v_len ty22 rfl (by first | rfl | assumption) (by first | exact List.length_map .. | rfl)) rfl rfl ?_)
                refine g_step rfl (s_val (v_eql rfl rfl) rfl rfl ?_)
                refine g_step rfl (s_val (v_move rfl) rfl rfl ?_)
                refine g_split 61 rfl (fun hg61 => ?_) (fun hg61 => ?_)
                · try simp only [decide_eq_true_eq, decide_eq_false_iff_not, Bool.not_eq_true', Bool.not_eq_false', Bool.not_eq_eq_eq_not, Bool.not_true, Bool.not_false, Bool.and_eq_true, Bool.or_eq_true, Bool.or_eq_false_iff, beq_iff_eq, beq_eq_false_iff_ne, ne_eq, Int.not_lt, Int.not_le, Decidable.not_not] at hg61
                  refine g_step_yes (j := 3) (t := 61) rfl rfl rfl rfl (s_val (v_move rfl) rfl rfl ?_)
                  refine g_step_yes (j := 3) (t := 61) rfl rfl rfl rfl (s_callp rfl rfl rfl (left_ok p2 d _ hq5) ?_)
                  rintro _ rfl
                  refine g_step_yes (j := 3) (t := 61) rfl rfl rfl rfl (s_val (v_move rfl) rfl rfl ?_)
                  refine g_step_yes (j := 3) (t := 61) rfl rfl rfl rfl (s_val (v_len ty22 rfl (by first | rfl | assumption) (by first | exact List.length_map .. | rfl)) rfl rfl ?_)
                  refine g_step_yes (j := 3) (t := 61) rfl rfl rfl rfl (s_val (v_eql rfl rfl) rfl rfl ?_)
                  refine g_step rfl (s_val (v_pick_t rfl rfl) rfl rfl ?_)
                  refine g_step rfl (s_val (v_move rfl) rfl rfl ?_)
                  refine g_split 68 rfl (fun hg68 => ?_) (fun hg68 => ?_)
                  · try simp only [decide_eq_true_eq, decide_eq_false_iff_not, Bool.not_eq_true', Bool.not_eq_false', Bool.not_eq_eq_eq_not, Bool.not_true, Bool.not_false, Bool.and_eq_true, Bool.or_eq_true, Bool.or_eq_false_iff, beq_iff_eq, beq_eq_false_iff_ne, ne_eq, Int.not_lt, Int.not_le, Decidable.not_not] at hg68
                    refine g_step_yes (j := 10) (t := 68) rfl rfl rfl rfl (s_callp rfl rfl rfl (awake19_ok _) ?_)
                    rintro _ rfl
                    refine g_step rfl (s_val (v_pick_t rfl rfl) rfl rfl ?_)
                    refine g_step rfl (s_val (v_assign rfl) rfl rfl ?_)
                    refine g_nil ?_
                    refine g_next hK44 ?_
                    refine g_ret ?_
                    refine g_then_ret ?_
                    refine g_end1 (.inl rfl) Try.results5 (.tmp rfl) [] (ASub.refl _) hs_G5 (fun p hp => by cases hp) ⟨rfl, ?_⟩
                    rfl
                  · exfalso; (try simp only [decide_eq_true_eq, decide_eq_false_iff_not, Bool.not_eq_true', Bool.not_eq_false', Bool.not_eq_eq_eq_not, Bool.not_true, Bool.not_false, Bool.and_eq_true, Bool.or_eq_true, Bool.or_eq_false_iff, beq_iff_eq, beq_eq_false_iff_ne, ne_eq, Int.not_lt, Int.not_le, Decidable.not_not] at hg68); simp at hg68
                · exfalso; (try simp only [decide_eq_true_eq, decide_eq_false_iff_not, Bool.not_eq_true', Bool.not_eq_false', Bool.not_eq_eq_eq_not, Bool.not_true, Bool.not_false, Bool.and_eq_true, Bool.or_eq_true, Bool.or_eq_false_iff, beq_iff_eq, beq_eq_false_iff_ne, ne_eq, Int.not_lt, Int.not_le, Decidable.not_not] at hg61); simp at hg61
              · try simp only [decide_eq_true_eq, decide_eq_false_iff_not, Bool.not_eq_true', Bool.not_eq_false', Bool.not_eq_eq_eq_not, Bool.not_true, Bool.not_false, Bool.and_eq_true, Bool.or_eq_true, Bool.or_eq_false_iff, beq_iff_eq, beq_eq_false_iff_ne, ne_eq, Int.not_lt, Int.not_le, Decidable.not_not] at hc57
                have hsi : someI l d k = (shuffled l d).take (min k.toNat l.length) := by rw [someI, if_neg (by omega)]
                rw [hsi]
                refine g_skip ?_
                refine g_next hK42 ?_
                refine g_seq (fun K45 hK45 => ?_)
                refine g_seq (fun K46 hK46 => ?_)
                refine g_region ?_
                refine g_step rfl (s_val (v_move rfl) rfl rfl ?_)
                refine g_step rfl (s_val (v_move rfl) rfl rfl ?_)
                refine g_step rfl (s_val (v_len ty22 rfl (by first | rfl | assumption) (by first | exact List.length_map .. | rfl)) rfl rfl ?_)
                refine g_step rfl (s_val (v_gtr rfl rfl) rfl rfl ?_)
                refine g_nil ?_
                refine g_next hK46 ?_
                refine g_cond rfl (fun hc74 => ?_) (fun hc74 => ?_)
                · try simp only [decide_eq_true_eq, decide_eq_false_iff_not, Bool.not_eq_true', Bool.not_eq_false', Bool.not_eq_eq_eq_not, Bool.not_true, Bool.not_false, Bool.and_eq_true, Bool.or_eq_true, Bool.or_eq_false_iff, beq_iff_eq, beq_eq_false_iff_ne, ne_eq, Int.not_lt, Int.not_le, Decidable.not_not] at hc74
                  obtain ⟨kk, hkk⟩ : ∃ kk, kk = min k.toNat l.length := ⟨_, rfl⟩
                  have hkz : (l.length : Int) = (kk : Int) := by omega
                  refine g_region ?_
                  refine g_step rfl (s_val (v_move rfl) rfl rfl ?_)
                  refine g_step rfl (s_val (v_len ty22 rfl (by first | rfl | assumption) (by first | exact List.length_map .. | rfl)) rfl rfl ?_)
                  refine g_step rfl (s_val (v_assign rfl) rfl rfl ?_)
                  refine g_nil ?_
                  refine g_next hK45 ?_
                  refine g_seq (fun K47 hK47 => ?_)
                  refine g_region ?_
                  refine g_step rfl (s_val (v_move rfl) rfl rfl ?_)
                  refine g_step rfl (s_val (v_move rfl) rfl rfl ?_)
                  refine g_step rfl (s_val (v_move rfl) rfl rfl ?_)
                  refine g_step rfl (s_val (v_slice_imm (lo := 0) (hi := kk) (m := (((shuffled l d).take kk).map (.int .i64))) ty22 ty3 rfl rfl rfl (by first | rfl | (exact (rfl : (0 : Int) = ((0 : Nat) : Int))) | omega | (simp <;> omega)) hkz (by first | omega | (simp <;> omega)) (by simp; omega) (by refine Even.map _ ?_ _; intro _; rfl) (by simp [List.map_take])) rfl rfl ?_)
                  refine g_step rfl (s_callp rfl rfl rfl (same19_ok ((shuffled l d).take (min k.toNat l.length)) ((shuffled l d).take kk) _ _ _ rfl rfl (by simp; omega)) ?_)
                  rintro _ rfl
                  refine g_step rfl (s_val (v_move rfl) rfl rfl ?_)
                  refine g_split 82 rfl (fun hg82 => ?_) (fun hg82 => ?_)
                  · try simp only [decide_eq_true_eq, decide_eq_false_iff_not, Bool.not_eq_true', Bool.not_eq_false', Bool.not_eq_eq_eq_not, Bool.not_true, Bool.not_false, Bool.and_eq_true, Bool.or_eq_true, Bool.or_eq_false_iff, beq_iff_eq, beq_eq_false_iff_ne, ne_eq, Int.not_lt, Int.not_le, Decidable.not_not] at hg82
                    refine g_step_yes (j := 5) (t := 82) rfl rfl rfl rfl (s_callp rfl rfl rfl (awake19_ok _) ?_)
                    rintro _ rfl
                    refine g_step rfl (s_val (v_pick_t rfl rfl) rfl rfl ?_)
                    refine g_step rfl (s_val (v_assign rfl) rfl rfl ?_)
                    refine g_nil ?_
                    refine g_next hK47 ?_
                    refine g_ret ?_
                    refine g_end1 (.inl rfl) Try.results5 (.tmp rfl) [] (ASub.refl _) hs_G5 (fun p hp => by cases hp) ⟨rfl, ?_⟩
                    rfl
                  · exfalso; (try simp only [decide_eq_true_eq, decide_eq_false_iff_not, Bool.not_eq_true', Bool.not_eq_false', Bool.not_eq_eq_eq_not, Bool.not_true, Bool.not_false, Bool.and_eq_true, Bool.or_eq_true, Bool.or_eq_false_iff, beq_iff_eq, beq_eq_false_iff_ne, ne_eq, Int.not_lt, Int.not_le, Decidable.not_not] at hg82); first | done | (rw [hkk] at hg82; simp at hg82)
                · try simp only [decide_eq_true_eq, decide_eq_false_iff_not, Bool.not_eq_true', Bool.not_eq_false', Bool.not_eq_eq_eq_not, Bool.not_true, Bool.not_false, Bool.and_eq_true, Bool.or_eq_true, Bool.or_eq_false_iff, beq_iff_eq, beq_eq_false_iff_ne, ne_eq, Int.not_lt, Int.not_le, Decidable.not_not] at hc74
                  obtain ⟨kk, hkk⟩ : ∃ kk, kk = min k.toNat l.length := ⟨_, rfl⟩
                  have hkz : k = (kk : Int) := by omega
                  refine g_skip ?_
                  refine g_next hK45 ?_
                  refine g_seq (fun K48 hK48 => ?_)
                  refine g_region ?_
                  refine g_step rfl (s_val (v_move rfl) rfl rfl ?_)
                  refine g_step rfl (s_val (v_move rfl) rfl rfl ?_)
                  refine g_step rfl (s_val (v_move rfl) rfl rfl ?_)
                  refine g_step rfl (s_val (v_slice_imm (lo := 0) (hi := kk) (m := (((shuffled l d).take kk).map (.int .i64))) ty22 ty3 rfl rfl rfl (by first | rfl | (exact (rfl : (0 : Int) = ((0 : Nat) : Int))) | omega | (simp <;> omega)) hkz (by first | omega | (simp <;> omega)) (by simp; omega) (by refine Even.map _ ?_ _; intro _; rfl) (by simp [List.map_take])) rfl rfl ?_)
                  refine g_step rfl (s_callp rfl rfl rfl (same19_ok ((shuffled l d).take (min k.toNat l.length)) ((shuffled l d).take kk) _ _ _ rfl rfl (by simp; omega)) ?_)
                  rintro _ rfl
                  refine g_step rfl (s_val (v_move rfl) rfl rfl ?_)
                  refine g_split 82 rfl (fun hg82 => ?_) (fun hg82 => ?_)
                  · try simp only [decide_eq_true_eq, decide_eq_false_iff_not, Bool.not_eq_true', Bool.not_eq_false', Bool.not_eq_eq_eq_not, Bool.not_true, Bool.not_false, Bool.and_eq_true, Bool.or_eq_true, Bool.or_eq_false_iff, beq_iff_eq, beq_eq_false_iff_ne, ne_eq, Int.not_lt, Int.not_le, Decidable.not_not] at hg82
                    refine g_step_yes (j := 5) (t := 82) rfl rfl rfl rfl (s_callp rfl rfl rfl (awake19_ok _) ?_)
                    rintro _ rfl
                    refine g_step rfl (s_val (v_pick_t rfl rfl) rfl rfl ?_)
                    refine g_step rfl (s_val (v_assign rfl) rfl rfl ?_)
                    refine g_nil ?_
                    refine g_next hK48 ?_
                    refine g_ret ?_
                    refine g_end1 (.inl rfl) Try.results5 (.tmp rfl) [] (ASub.refl _) hs_G5 (fun p hp => by cases hp) ⟨rfl, ?_⟩
                    rfl
                  · exfalso; (try simp only [decide_eq_true_eq, decide_eq_false_iff_not, Bool.not_eq_true', Bool.not_eq_false', Bool.not_eq_eq_eq_not, Bool.not_true, Bool.not_false, Bool.and_eq_true, Bool.or_eq_true, Bool.or_eq_false_iff, beq_iff_eq, beq_eq_false_iff_ne, ne_eq, Int.not_lt, Int.not_le, Decidable.not_not] at hg82); first | done | (rw [hkk] at hg82; simp at hg82)
          · try simp only [decide_eq_true_eq, decide_eq_false_iff_not, Bool.not_eq_true', Bool.not_eq_false', Bool.not_eq_eq_eq_not, Bool.not_true, Bool.not_false, Bool.and_eq_true, Bool.or_eq_true, Bool.or_eq_false_iff, beq_iff_eq, beq_eq_false_iff_ne, ne_eq, Int.not_lt, Int.not_le, Decidable.not_not] at hc40
            refine g_skip ?_
            refine g_next hK36 ?_
            refine g_seq (fun K49 hK49 => ?_)
            refine g_seq (fun K50 hK50 => ?_)
            refine g_region ?_
            refine g_step rfl (s_val (v_move rfl) rfl rfl ?_)
            refine g_step rfl (s_callp rfl rfl rfl (left_ok p (shufRest l d) _ hq3) ?_)
            rintro _ rfl
            refine g_step rfl (s_val (v_move rfl) rfl rfl ?_)
            refine g_step rfl (s_val (v_len ty22 rfl (by first | rfl | assumption) (by first | exact List.length_map .. | rfl)) rfl rfl ?_)
            refine g_step rfl (s_val (v_move rfl) rfl rfl ?_)
            refine g_step rfl (s_val (v_sub_ rfl rfl (by omega)) rfl rfl ?_)
            refine g_step rfl (s_val (v_neq rfl rfl) rfl rfl ?_)
            refine g_nil ?_
            refine g_next hK50 ?_
            refine g_cond rfl (fun hc49 => ?_) (fun hc49 => ?_)
            · exfalso; (try simp only [decide_eq_true_eq, decide_eq_false_iff_not, Bool.not_eq_true', Bool.not_eq_false', Bool.not_eq_eq_eq_not, Bool.not_true, Bool.not_false, Bool.and_eq_true, Bool.or_eq_true, Bool.or_eq_false_iff, beq_iff_eq, beq_eq_false_iff_ne, ne_eq, Int.not_lt, Int.not_le, Decidable.not_not] at hc49); omega
            · try simp only [decide_eq_true_eq, decide_eq_false_iff_not, Bool.not_eq_true', Bool.not_eq_false', Bool.not_eq_eq_eq_not, Bool.not_true, Bool.not_false, Bool.and_eq_true, Bool.or_eq_true, Bool.or_eq_false_iff, beq_iff_eq, beq_eq_false_iff_ne, ne_eq, Int.not_lt, Int.not_le, Decidable.not_not] at hc49
              refine g_skip ?_
              refine g_next hK49 ?_
              refine g_seq (fun K51 hK51 => ?_)
              refine g_region ?_
              refine g_step rfl (s_val (v_move rfl) rfl rfl ?_)
              refine g_step rfl (s_call rfl rfl rfl (new_ok d _ _ rfl (by omega)) (fun _ h => h.elim) ?_)
              rintro n4 r4 effs4 hn4 hdom4 ⟨p2, hp4, rfl, rfl⟩ hok4
              have hw_p2 : w0.heap.size ≤ p2 := Nat.le_trans hn4 hp4
              have hz_p2 := hdom4 _ hp4
              have hz0_p2 := sub_none hs_G3 hz_p2
              generalize hE_p2 : setAll G3 [(p2, .box (.agg [encI d]))] = G4
              have hs_G4 : H.sub G4 := hE_p2 ▸ sub_set' hs_G3 hz0_p2
              have hq_p2 : G4 p2 = some (.box (.agg [encI d])) := hE_p2 ▸ AHeap.get_set _ _ _
              refine g_step rfl (s_val (v_assign rfl) rfl rfl ?_)
              refine g_nil ?_
              refine g_next hK51 ?_
              refine g_seq (fun K52 hK52 => ?_)
              refine g_region ?_
              refine g_step rfl (s_val (v_move rfl) rfl rfl ?_)
              refine g_step rfl (s_val (v_move rfl) rfl rfl ?_)
              refine g_step rfl (s_val (v_move rfl) rfl rfl ?_)
              refine g_step rfl (s_call rfl rfl rfl (some_ok p2 d l k _ _ hq_p2 rfl (by omega)) (fun b hb => .inr (by subst hb; exact hw_p2)) ?_)
              rintro n5 r5 effs5 hn5 hdom5 ⟨rfl, rfl⟩ hok5
              generalize hE_G5 : setAll G4 [(p2, .box (.agg [encI (someRest l d k)]))] = G5
              have hs_G5 : H.sub G5 := hE_G5 ▸ sub_set' hs_G4 hz0_p2
              have hq5 : G5 p2 = some (.box (.agg [encI (someRest l d k)])) := hE_G5 ▸ AHeap.get_set _ _ _
              refine g_step rfl (s_val (v_assign rfl) rfl rfl ?_)
              refine g_nil ?_
              refine g_next hK52 ?_
              refine g_seq (fun K53 hK53 => ?_)
              refine g_seq (fun K54 hK54 => ?_)
              refine g_region ?_
              refine g_step rfl (s_val (v_move rfl) rfl rfl ?_)
              refine g_step rfl (s_val (v_lss rfl rfl) rfl rfl ?_)
              refine g_nil ?_
              refine g_next hK54 ?_
              refine g_cond rfl (fun hc57 => ?_) (fun hc57 => ?_)
              · try simp only [decide_eq_true_eq, decide_eq_false_iff_not, Bool.not_eq_true', Bool.not_eq_false', Bool.not_eq_eq_eq_not, Bool.not_true, Bool.not_false, Bool.and_eq_true, Bool.or_eq_true, Bool.or_eq_false_iff, beq_iff_eq, beq_eq_false_iff_ne, ne_eq, Int.not_lt, Int.not_le, Decidable.not_not] at hc57
                have hsi : someI l d k = [] := by rw [someI, if_pos hc57]
                have hsr : someRest l d k = d := by rw [someRest, if_pos hc57]
                rw [hsr] at hq5
                rw [hsi]
                refine g_seq (fun K55 hK55 => ?_)
                refine g_region ?_
                refine g_step rfl (s_val (v_move rfl) rfl rfl ?_)
                refine g_step rfl (s_val (v_len ty22 rfl (by first | rfl | assumption) (by first | exact List.length_map .. | rfl)) rfl rfl ?_)
                refine g_step rfl (s_val (v_eql rfl rfl) rfl rfl ?_)
                refine g_step rfl (s_val (v_move rfl) rfl rfl ?_)
                refine g_split 61 rfl (fun hg61 => ?_) (fun hg61 => ?_)
                · try simp only [decide_eq_true_eq, decide_eq_false_iff_not, Bool.not_eq_true', Bool.not_eq_false', Bool.not_eq_eq_eq_not, Bool.not_true, Bool.not_false, Bool.and_eq_true, Bool.or_eq_true, Bool.or_eq_false_iff, beq_iff_eq, beq_eq_false_iff_ne, ne_eq, Int.not_lt, Int.not_le, Decidable.not_not] at hg61
                  refine g_step_yes (j := 3) (t := 61) rfl rfl rfl rfl (s_val (v_move rfl) rfl rfl ?_)
                  refine g_step_yes (j := 3) (t := 61) rfl rfl rfl rfl (s_callp rfl rfl rfl (left_ok p2 d _ hq5) ?_)
                  rintro _ rfl
                  refine g_step_yes (j := 3) (t := 61) rfl rfl rfl rfl (s_val (v_move rfl) rfl rfl ?_)
                  refine g_step_yes (j := 3) (t := 61) rfl rfl rfl rfl (s_val (v_len ty22 rfl (by first | rfl | assumption) (by first | exact List.length_map .. | rfl)) rfl rfl ?_)
                  refine g_step_yes (j := 3) (t := 61) rfl rfl rfl rfl (s_val (v_eql rfl rfl) rfl rfl ?_)
                  refine g_step rfl (s_val (v_pick_t rfl rfl) rfl rfl ?_)
                  refine g_step rfl (s_val (v_move rfl) rfl rfl ?_)
                  refine g_split 68 rfl (fun hg68 => ?_) (fun hg68 => ?_)
                  · try simp only [decide_eq_true_eq, decide_eq_false_iff_not, Bool.not_eq_true', Bool.not_eq_false', Bool.not_eq_eq_eq_not, Bool.not_true, Bool.not_false, Bool.and_eq_true, Bool.or_eq_true, Bool.or_eq_false_iff, beq_iff_eq, beq_eq_false_iff_ne, ne_eq, Int.not_lt, Int.not_le, Decidable.not_not] at hg68
                    refine g_step_yes (j := 10) (t := 68) rfl rfl rfl rfl (s_callp rfl rfl rfl (awake19_ok _) ?_)
                    rintro _ rfl
                    refine g_step rfl (s_val (v_pick_t rfl rfl) rfl rfl ?_)
                    refine g_step rfl (s_val (v_assign rfl) rfl rfl ?_)
                    refine g_nil ?_
                    refine g_next hK55 ?_
                    refine g_ret ?_
                    refine g_then_ret ?_
                    refine g_end1 (.inl rfl) Try.results5 (.tmp rfl) [] (ASub.refl _) hs_G5 (fun p hp => by cases hp) ⟨rfl, ?_⟩
                    rfl
                  · exfalso; (try simp only [decide_eq_true_eq, decide_eq_false_iff_not, Bool.not_eq_true', Bool.not_eq_false', Bool.not_eq_eq_eq_not, Bool.not_true, Bool.not_false, Bool.and_eq_true, Bool.or_eq_true, Bool.or_eq_false_iff, beq_iff_eq, beq_eq_false_iff_ne, ne_eq, Int.not_lt, Int.not_le, Decidable.not_not] at hg68); simp at hg68
                · exfalso; (try simp only [decide_eq_true_eq, decide_eq_false_iff_not, Bool.not_eq_true', Bool.not_eq_false', Bool.not_eq_eq_eq_not, Bool.not_true, Bool.not_false, Bool.and_eq_true, Bool.or_eq_true, Bool.or_eq_false_iff, beq_iff_eq, beq_eq_false_iff_ne, ne_eq, Int.not_lt, Int.not_le, Decidable.not_not] at hg61); simp at hg61
              · try simp only [decide_eq_true_eq, decide_eq_false_iff_not, Bool.not_eq_true', Bool.not_eq_false', Bool.not_eq_eq_eq_not, Bool.not_true, Bool.not_false, Bool.and_eq_true, Bool.or_eq_true, Bool.or_eq_false_iff, beq_iff_eq, beq_eq_false_iff_ne, ne_eq, Int.not_lt, Int.not_le, Decidable.not_not] at hc57
                have hsi : someI l d k = (shuffled l d).take (min k.toNat l.length) := by rw [someI, if_neg (by omega)]
                rw [hsi]
                refine g_skip ?_
                refine g_next hK53 ?_
                refine g_seq (fun K56 hK56 => ?_)
                refine g_seq (fun K57 hK57 => ?_)
                refine g_region ?_
                refine g_step rfl (s_val (v_move rfl) rfl rfl ?_)
                refine g_step rfl (s_val (v_move rfl) rfl rfl ?_)
                refine g_step rfl (s_val (v_len ty22 rfl (by first | rfl | assumption) (by first | exact List.length_map .. | rfl)) rfl rfl ?_)
                refine g_step rfl (s_val (v_gtr rfl rfl) rfl rfl ?_)
                refine g_nil ?_
                refine g_next hK57 ?_
                refine g_cond rfl (fun hc74 => ?_) (fun hc74 => ?_)
                · try simp only [decide_eq_true_eq, decide_eq_false_iff_not, Bool.not_eq_true', Bool.not_eq_false', Bool.not_eq_eq_eq_not, Bool.not_true, Bool.not_false, Bool.and_eq_true, Bool.or_eq_true, Bool.or_eq_false_iff, beq_iff_eq, beq_eq_false_iff_ne, ne_eq, Int.not_lt, Int.not_le, Decidable.not_not] at hc74
                  obtain ⟨kk, hkk⟩ : ∃ kk, kk = min k.toNat l.length := ⟨_, rfl⟩
                  have hkz : (l.length : Int) = (kk : Int) := by omega
                  refine g_region ?_
                  refine g_step rfl (s_val (v_move rfl) rfl rfl ?_)
                  refine g_step rfl (s_val (v_len ty22 rfl (by first | rfl | assumption) (by first | exact List.length_map .. | rfl)) rfl rfl ?_)
                  refine g_step rfl (s_val (v_assign rfl) rfl rfl ?_)
                  refine g_nil ?_
                  refine g_next hK56 ?_
                  refine g_seq (fun K58 hK58 => ?_)
                  refine g_region ?_
                  refine g_step rfl (s_val (v_move rfl) rfl rfl ?_)
                  refine g_step rfl (s_val (v_move rfl) rfl rfl ?_)
                  refine g_step rfl (s_val (v_move rfl) rfl rfl ?_)
                  refine g_step rfl (s_val (v_slice_imm (lo := 0) (hi := kk) (m := (((shuffled l d).take kk).map (.int .i64))) ty22 ty3 rfl rfl rfl (by first | rfl | (exact (rfl : (0 : Int) = ((0 : Nat) : Int))) | omega | (simp <;> omega)) hkz (by first | omega | (simp <;> omega)) (by simp; omega) (by refine Even.map _ ?_ _; intro _; rfl) (by simp [List.map_take])) rfl rfl ?_)
                  refine g_step rfl (s_callp rfl rfl rfl (same19_ok ((shuffled l d).take (min k.toNat l.length)) ((shuffled l d).take kk) _ _ _ rfl rfl (by simp; omega)) ?_)
                  rintro _ rfl
                  refine g_step rfl (s_val (v_move rfl) rfl rfl ?_)
                  refine g_split 82 rfl (fun hg82 => ?_) (fun hg82 => ?_)
                  · try simp only [decide_eq_true_eq, decide_eq_false_iff_not, Bool.not_eq_true', Bool.not_eq_false', Bool.not_eq_eq_eq_not, Bool.not_true, Bool.not_false, Bool.and_eq_true, Bool.or_eq_true, Bool.or_eq_false_iff, beq_iff_eq, beq_eq_false_iff_ne, ne_eq, Int.not_lt, Int.not_le, Decidable.not_not] at hg82
                    refine g_step_yes (j := 5) (t := 82) rfl rfl rfl rfl (s_callp rfl rfl rfl (awake19_ok _) ?_)
                    rintro _ rfl
                    refine g_step rfl (s_val (v_pick_t rfl rfl) rfl rfl ?_)
                    refine g_step rfl (s_val (v_assign rfl) rfl rfl ?_)
                    refine g_nil ?_
                    refine g_next hK58 ?_
                    refine g_ret ?_
                    refine g_end1 (.inl rfl) Try.results5 (.tmp rfl) [] (ASub.refl _) hs_G5 (fun p hp => by cases hp) ⟨rfl, ?_⟩
                    rfl
                  · exfalso; (try simp only [decide_eq_true_eq, decide_eq_false_iff_not, Bool.not_eq_true', Bool.not_eq_false', Bool.not_eq_eq_eq_not, Bool.not_true, Bool.not_false, Bool.and_eq_true, Bool.or_eq_true, Bool.or_eq_false_iff, beq_iff_eq, beq_eq_false_iff_ne, ne_eq, Int.not_lt, Int.not_le, Decidable.not_not] at hg82); first | done | (rw [hkk] at hg82; simp at hg82)
                · try simp only [decide_eq_true_eq, decide_eq_false_iff_not, Bool.not_eq_true', Bool.not_eq_false', Bool.not_eq_eq_eq_not, Bool.not_true, Bool.not_false, Bool.and_eq_true, Bool.or_eq_true, Bool.or_eq_false_iff, beq_iff_eq, beq_eq_false_iff_ne, ne_eq, Int.not_lt, Int.not_le, Decidable.not_not] at hc74
                  obtain ⟨kk, hkk⟩ : ∃ kk, kk = min k.toNat l.length := ⟨_, rfl⟩
                  have hkz : k = (kk : Int) := by omega
                  refine g_skip ?_
                  refine g_next hK56 ?_
                  refine g_seq (fun K59 hK59 => ?_)
                  refine g_region ?_
                  refine g_step rfl (s_val (v_move rfl) rfl rfl ?_)
                  refine g_step rfl (s_val (v_move rfl) rfl rfl ?_)
                  refine g_step rfl (s_val (v_move rfl) rfl rfl ?_)
                  refine g_step rfl (s_val (v_slice_imm (lo := 0) (hi := kk) (m := (((shuffled l d).take kk).map (.int .i64))) ty22 ty3 rfl rfl rfl (by first | rfl | (exact (rfl : (0 : Int) = ((0 : Nat) : Int))) | omega | (simp <;> omega)) hkz (by first | omega | (simp <;> omega)) (by simp; omega) (by refine Even.map _ ?_ _; intro _; rfl) (by simp [List.map_take])) rfl rfl ?_)
                  refine g_step rfl (s_callp rfl rfl rfl (same19_ok ((shuffled l d).take (min k.toNat l.length)) ((shuffled l d).take kk) _ _ _ rfl rfl (by simp; omega)) ?_)
                  rintro _ rfl
                  refine g_step rfl (s_val (v_move rfl) rfl rfl ?_)
                  refine g_split 82 rfl (fun hg82 => ?_) (fun hg82 => ?_)
                  · try simp only [decide_eq_true_eq, decide_eq_false_iff_not, Bool.not_eq_true', Bool.not_eq_false', Bool.not_eq_eq_eq_not, Bool.not_true, Bool.not_false, Bool.and_eq_true, Bool.or_eq_true, Bool.or_eq_false_iff, beq_iff_eq, beq_eq_false_iff_ne, ne_eq, Int.not_lt, Int.not_le, Decidable.not_not] at hg82
                    refine g_step_yes (j := 5) (t := 82) rfl rfl rfl rfl (s_callp rfl rfl rfl (awake19_ok _) ?_)
                    rintro _ rfl
                    refine g_step rfl (s_val (v_pick_t rfl rfl) rfl rfl ?_)
                    refine g_step rfl (s_val (v_assign rfl) rfl rfl ?_)
                    refine g_nil ?_
                    refine g_next hK59 ?_
                    refine g_ret ?_
                    refine g_end1 (.inl rfl) Try.results5 (.tmp rfl) [] (ASub.refl _) hs_G5 (fun p hp => by cases hp) ⟨rfl, ?_⟩
                    rfl
                  · exfalso; (try simp only [decide_eq_true_eq, decide_eq_false_iff_not, Bool.not_eq_true', Bool.not_eq_false', Bool.not_eq_eq_eq_not, Bool.not_true, Bool.not_false, Bool.and_eq_true, Bool.or_eq_true, Bool.or_eq_false_iff, beq_iff_eq, beq_eq_false_iff_ne, ne_eq, Int.not_lt, Int.not_le, Decidable.not_not] at hg82); first | done | (rw [hkk] at hg82; simp at hg82)

end Go.Proofs.Ytmnngdbcfdnefaa

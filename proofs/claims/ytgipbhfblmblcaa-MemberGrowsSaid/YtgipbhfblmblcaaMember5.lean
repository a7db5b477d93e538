import Derived.Test.YtgipbhfblmblcaaMember3
import Derived.Test.YtgipbhfblmblcaaMember4
import Derived.Test.YtgipbhfblmblcaaUnder
import Derived.Test.YtgipbhfblmblcaaPMember3
set_option maxHeartbeats 8000000
set_option linter.unusedSimpArgs false
set_option linter.unusedVariables false
set_option maxRecDepth 100000
namespace Go.Proofs.Ytgipbhfblmblcaa
open Go Go.Proofs.Ytgipbhfblmblcaa.AM
theorem few25_ok (own : Rc) (acts : List Ac) (hho : Held own.bag) (hha : ∀ a ∈ acts, Held a.rc.bag) (hlen : acts.length ≤ 140737488351232) (G : AHeap) : PCalls Try.prog 29 [encR own, .imm (acts.map encAc)] G (fun v => v = .bool (fewA own acts)) := by
  refine LCalls.intro 29 fi29 rfl Try.ntmps29 rfl (fun _ h => h.elim) (fun H hH w0 hw0 => ?_)
  refine g_seq (fun K0 hK0 => ?_)
  refine g_region ?_
  refine g_step rfl (s_box rfl rfl rfl rfl ?_)
  refine g_step rfl (s_val (v_assign rfl) rfl rfl ?_)
  refine g_nil ?_
  refine g_next hK0 ?_
  refine g_seq (fun K1 hK1 => ?_)
  refine g_seq (fun K2 hK2 => ?_)
  refine g_region ?_
  refine g_step rfl (s_val (v_move rfl) rfl rfl ?_)
  refine g_step rfl (s_val (v_len ty58 rfl (by first | rfl | assumption) (by first | exact List.length_map .. | rfl)) rfl rfl ?_)
  refine g_step rfl (s_val (v_gtr rfl rfl) rfl rfl ?_)
  refine g_step rfl (s_val (v_move rfl) rfl rfl ?_)
  refine g_split 9 rfl (fun hg9 => ?_) (fun hg9 => ?_)
  · try simp only [decide_eq_true_eq, decide_eq_false_iff_not, Bool.not_eq_true', Bool.not_eq_false', Bool.not_eq_eq_eq_not, Bool.not_true, Bool.not_false, Bool.and_eq_true, Bool.or_eq_true, Bool.or_eq_false_iff, beq_iff_eq, beq_eq_false_iff_ne, ne_eq, Int.not_lt, Int.not_le, Decidable.not_not] at hg9
    refine g_step_no (j := 3) (t := 9) rfl rfl rfl rfl rfl rfl rfl ?_
    refine g_step_no (j := 3) (t := 9) rfl rfl rfl rfl rfl rfl rfl ?_
    refine g_step_no (j := 3) (t := 9) rfl rfl rfl rfl rfl rfl rfl ?_
    refine g_step_no (j := 3) (t := 9) rfl rfl rfl rfl rfl rfl rfl ?_
    refine g_step rfl (s_val (v_pick_t rfl rfl) rfl rfl ?_)
    refine g_nil ?_
    refine g_next hK2 ?_
    refine g_cond rfl (fun _ => ?_) (fun h => by cases h)
    refine g_seq (fun K3 hK3 => ?_)
    refine g_region ?_
    refine g_step rfl (s_val (v_assign rfl) rfl rfl ?_)
    refine g_nil ?_
    refine g_next hK3 ?_
    refine g_ret ?_
    refine g_then_ret ?_
    refine g_end1 (.inl rfl) Try.results29 (.tmp rfl) [] (ASub.refl _) (AHeap.sub_refl _) (fun p hp => by cases hp) ⟨rfl, ?_⟩
    first | (first | (rw [fewA, decide_eq_false (by omega)]; rfl) | (simp_all [fewA]; done); done) | (first | (rw [fewA, decide_eq_false (by omega)]; rfl) | (simp_all [fewA]; done); rfl)
  · try simp only [decide_eq_true_eq, decide_eq_false_iff_not, Bool.not_eq_true', Bool.not_eq_false', Bool.not_eq_eq_eq_not, Bool.not_true, Bool.not_false, Bool.and_eq_true, Bool.or_eq_true, Bool.or_eq_false_iff, beq_iff_eq, beq_eq_false_iff_ne, ne_eq, Int.not_lt, Int.not_le, Decidable.not_not] at hg9
    refine g_step_yes (j := 3) (t := 9) rfl rfl rfl rfl (s_val (by first | exact v_loadl_all ty46 rfl rfl rfl rfl rfl | exact v_loadl_part (cs := [_, _, _, _, _, _, _]) ty46 rfl rfl rfl rfl rfl rfl) rfl rfl ?_)
    refine g_step_yes (j := 3) (t := 9) rfl rfl rfl rfl (s_lit ty22 ty46 rfl rfl rfl rfl rfl rfl rfl ?_)
    refine g_step_yes (j := 3) (t := 9) rfl rfl rfl rfl (s_callp rfl rfl rfl (fewL_ok [own] _ _ rfl (by simpa using hho) (by simp)) ?_)
    rintro _ rfl
    rw [fewL_one]
    refine g_step_yes (j := 3) (t := 9) rfl rfl rfl rfl (s_val (v_not rfl) rfl rfl ?_)
    refine g_step rfl (s_val (v_pick_f rfl rfl) rfl rfl ?_)
    refine g_nil ?_
    refine g_next hK2 ?_
    refine g_cond rfl (fun hc14 => ?_) (fun hc14 => ?_)
    · try simp only [decide_eq_true_eq, decide_eq_false_iff_not, Bool.not_eq_true', Bool.not_eq_false', Bool.not_eq_eq_eq_not, Bool.not_true, Bool.not_false, Bool.and_eq_true, Bool.or_eq_true, Bool.or_eq_false_iff, beq_iff_eq, beq_eq_false_iff_ne, ne_eq, Int.not_lt, Int.not_le, Decidable.not_not] at hc14
      refine g_seq (fun K4 hK4 => ?_)
      refine g_region ?_
      refine g_step rfl (s_val (v_assign rfl) rfl rfl ?_)
      refine g_nil ?_
      refine g_next hK4 ?_
      refine g_ret ?_
      refine g_then_ret ?_
      refine g_end1 (.inl rfl) Try.results29 (.tmp rfl) [] (ASub.refl _) (AHeap.sub_refl _) (fun p hp => by cases hp) ⟨rfl, ?_⟩
      first | (first | (rw [fewA, decide_eq_false (by omega)]; rfl) | (simp_all [fewA]; done); done) | (first | (rw [fewA, decide_eq_false (by omega)]; rfl) | (simp_all [fewA]; done); rfl)
    · try simp only [decide_eq_true_eq, decide_eq_false_iff_not, Bool.not_eq_true', Bool.not_eq_false', Bool.not_eq_eq_eq_not, Bool.not_true, Bool.not_false, Bool.and_eq_true, Bool.or_eq_true, Bool.or_eq_false_iff, beq_iff_eq, beq_eq_false_iff_ne, ne_eq, Int.not_lt, Int.not_le, Decidable.not_not] at hc14
      refine g_skip ?_
      refine g_next hK1 ?_
      refine g_seq (fun K5 hK5 => ?_)
      refine g_seq (fun K6 hK6 => ?_)
      refine g_region ?_
      refine g_step rfl (s_val (v_assign rfl) rfl rfl ?_)
      refine g_nil ?_
      refine g_next hK6 ?_
      refine g_block ?_
      first | refine g_keep [1, 5] [] [] (keep_cons rfl (keep_cons rfl keep_nil)) lkeep_nil keep_nil rfl ?_ | refine g_keep [1, 5] [] [] rfl rfl rfl rfl ?_
      refine g_loop (fun n env L B G => ∃ (k : Nat) , k ≤ acts.length ∧ n = acts.length - k ∧ env = [(1, .imm (acts.map encAc)), (5, .int .i64 (k : Int))] ∧ L = [] ∧ B = [] ∧ H = G ∧ (acts.take k).all (fun a => few a.rc.bag) = true) (acts.length) ⟨0, Nat.zero_le _, rfl, rfl, rfl, rfl, rfl, rfl⟩ (fun n env L B G hI => ?_)
      obtain ⟨k, hk, rfl, rfl, rfl, rfl, rfl, hc⟩ := hI
      refine g_seq (fun K7 hK7 => ?_)
      refine g_seq (fun K8 hK8 => ?_)
      refine g_region ?_
      refine g_step rfl (s_val (v_move rfl) rfl rfl ?_)
      refine g_step rfl (s_val (v_move rfl) rfl rfl ?_)
      refine g_step rfl (s_val (v_len ty58 rfl (by first | rfl | assumption) (by first | exact List.length_map .. | rfl)) rfl rfl ?_)
      refine g_step rfl (s_val (v_lss rfl rfl) rfl rfl ?_)
      refine g_nil ?_
      refine g_next hK8 ?_
      refine g_cond rfl (fun hc18 => ?_) (fun hc18 => ?_)
      · try simp only [decide_eq_true_eq, decide_eq_false_iff_not, Bool.not_eq_true', Bool.not_eq_false', Bool.not_eq_eq_eq_not, Bool.not_true, Bool.not_false, Bool.and_eq_true, Bool.or_eq_true, Bool.or_eq_false_iff, beq_iff_eq, beq_eq_false_iff_ne, ne_eq, Int.not_lt, Int.not_le, Decidable.not_not] at hc18
        obtain ⟨a, ha⟩ := get_some (l := acts) (k := k) (by omega)
        refine g_skip ?_
        refine g_next hK7 ?_
        refine g_seq (fun K9 hK9 => ?_)
        refine g_block ?_
        refine g_seq (fun K10 hK10 => ?_)
        refine g_region ?_
        refine g_step rfl (s_val (v_move rfl) rfl rfl ?_)
        refine g_step rfl (s_val (v_move rfl) rfl rfl ?_)
        refine g_step rfl (s_val (v_indexAddr ty58 ty65 rfl rfl (by first | rfl | assumption) (by first | rfl | exact (rfl : (0 : Int) = ((0 : Nat) : Int)) | exact (Int.toNat_of_nonneg (by omega)).symm) (map_get ha) rfl) rfl rfl ?_)
        refine g_step rfl (s_val (by first | exact v_fieldAddr ty65 fo65_1 ty46 rfl | exact v_fieldAddr_box ty65 fo65_1 ty46 rfl) rfl rfl ?_)
        refine g_step rfl (s_val (by first | exact v_load_elt ty46 rfl rfl (by first | rfl | assumption) (map_get ha) rfl rfl | exact v_load_box_all ty46 rfl rfl (by assumption) rfl rfl | exact v_load_part (cs := [_, _, _, _, _, _, _]) ty46 rfl rfl (by first | rfl | assumption) (map_get ha) rfl rfl rfl | exact v_load_box_part (cs := [_, _, _, _, _, _, _]) ty46 rfl rfl (by assumption) rfl rfl rfl) rfl rfl ?_)
        refine g_step rfl (s_lit ty22 ty46 rfl rfl rfl rfl rfl rfl rfl ?_)
        refine g_step rfl (s_callp rfl rfl rfl (fewL_ok [a.rc] _ _ rfl (by simpa using hha a (mem_get ha)) (by simp)) ?_)
        rintro _ rfl
        rw [fewL_one]
        refine g_step rfl (s_val (v_not rfl) rfl rfl ?_)
        refine g_nil ?_
        refine g_next hK10 ?_
        refine g_cond rfl (fun hc28 => ?_) (fun hc28 => ?_)
        · try simp only [decide_eq_true_eq, decide_eq_false_iff_not, Bool.not_eq_true', Bool.not_eq_false', Bool.not_eq_eq_eq_not, Bool.not_true, Bool.not_false, Bool.and_eq_true, Bool.or_eq_true, Bool.or_eq_false_iff, beq_iff_eq, beq_eq_false_iff_ne, ne_eq, Int.not_lt, Int.not_le, Decidable.not_not] at hc28
          refine g_seq (fun K11 hK11 => ?_)
          refine g_region ?_
          refine g_step rfl (s_val (v_assign rfl) rfl rfl ?_)
          refine g_nil ?_
          refine g_next hK11 ?_
          refine g_ret ?_
          refine g_block_ret ?_
          refine g_then_ret ?_
          refine g_then_ret ?_
          refine g_block_ret ?_
          refine g_then_ret ?_
          refine g_end1 (.inl rfl) Try.results29 (.tmp rfl) [] (ASub.refl _) (AHeap.sub_refl _) (fun p hp => by cases hp) ⟨rfl, ?_⟩
          first | (rw [fewA, all_stop ha (by simpa using hc28), Bool.and_false, Bool.and_false]; done) | (rw [fewA, all_stop ha (by simpa using hc28), Bool.and_false, Bool.and_false]; rfl)
        · try simp only [decide_eq_true_eq, decide_eq_false_iff_not, Bool.not_eq_true', Bool.not_eq_false', Bool.not_eq_eq_eq_not, Bool.not_true, Bool.not_false, Bool.and_eq_true, Bool.or_eq_true, Bool.or_eq_false_iff, beq_iff_eq, beq_eq_false_iff_ne, ne_eq, Int.not_lt, Int.not_le, Decidable.not_not] at hc28
          refine g_skip ?_
          refine g_block_normal ?_
          refine g_next hK9 ?_
          refine g_region ?_
          refine g_step rfl (s_val (v_move rfl) rfl rfl ?_)
          refine g_step rfl (s_val (v_add rfl rfl (by omega)) rfl rfl ?_)
          refine g_step rfl (s_val (v_assign rfl) rfl rfl ?_)
          refine g_nil ?_
          first | refine g_keep [1, 5] [] [] (keep_cons rfl (keep_cons rfl keep_nil)) lkeep_nil keep_nil rfl ?_ | refine g_keep [1, 5] [] [] rfl rfl rfl rfl ?_
          exact g_round _ (by omega) ⟨k + 1, by omega, rfl, rfl, rfl, rfl, rfl, by rw [all_snoc ha, hc, Bool.true_and]; simpa using hc28⟩
      · try simp only [decide_eq_true_eq, decide_eq_false_iff_not, Bool.not_eq_true', Bool.not_eq_false', Bool.not_eq_eq_eq_not, Bool.not_true, Bool.not_false, Bool.and_eq_true, Bool.or_eq_true, Bool.or_eq_false_iff, beq_iff_eq, beq_eq_false_iff_ne, ne_eq, Int.not_lt, Int.not_le, Decidable.not_not] at hc18
        obtain rfl : k = acts.length := by omega
        rw [List.take_length] at hc
        refine g_exit ?_
        refine g_then_exit ?_
        refine g_then_exit ?_
        refine g_block_same ?_
        refine g_next hK5 ?_
        refine g_seq (fun K12 hK12 => ?_)
        refine g_region ?_
        refine g_step rfl (s_val (v_assign rfl) rfl rfl ?_)
        refine g_nil ?_
        refine g_next hK12 ?_
        refine g_ret ?_
        refine g_end1 (.inl rfl) Try.results29 (.tmp rfl) [] (ASub.refl _) (AHeap.sub_refl _) (fun p hp => by cases hp) ⟨rfl, ?_⟩
        first | (rw [fewA, hc]; simp_all; omega; done) | (rw [fewA, hc]; simp_all; omega; rfl)

theorem memberGrows_ok (own : Rc) (room : Int) (acts : List Ac) (hho : Held own.bag) (hha : ∀ a ∈ acts, Held a.rc.bag) (hlen : acts.length ≤ 140737488351232) (G : AHeap) : PCalls Try.prog 8 [encR own, .int .i64 room, .imm (acts.map encAc)] G (fun v => v = .bool true) := by
  refine LCalls.intro 139 fi8 rfl Try.ntmps8 rfl (fun _ h => h.elim) (fun H hH w0 hw0 => ?_)
  refine g_seq (fun K0 hK0 => ?_)
  refine g_region ?_
  refine g_step rfl (s_box rfl rfl rfl rfl ?_)
  refine g_step rfl (s_val (v_assign rfl) rfl rfl ?_)
  refine g_nil ?_
  refine g_next hK0 ?_
  refine g_seq (fun K1 hK1 => ?_)
  refine g_seq (fun K2 hK2 => ?_)
  refine g_region ?_
  refine g_step rfl (s_val (by first | exact v_loadl_all ty46 rfl rfl rfl rfl rfl | exact v_loadl_part (cs := [_, _, _, _, _, _, _]) ty46 rfl rfl rfl rfl rfl rfl) rfl rfl ?_)
  refine g_step rfl (s_val (v_move rfl) rfl rfl ?_)
  refine g_step rfl (s_callp rfl rfl rfl (few25_ok own acts hho hha hlen _) ?_)
  rintro _ rfl
  refine g_step rfl (s_val (v_not rfl) rfl rfl ?_)
  refine g_nil ?_
  refine g_next hK2 ?_
  refine g_cond rfl (fun hc17 => ?_) (fun hc17 => ?_)
  · try simp only [decide_eq_true_eq, decide_eq_false_iff_not, Bool.not_eq_true', Bool.not_eq_false', Bool.not_eq_eq_eq_not, Bool.not_true, Bool.not_false, Bool.and_eq_true, Bool.or_eq_true, Bool.or_eq_false_iff, beq_iff_eq, beq_eq_false_iff_ne, ne_eq, Int.not_lt, Int.not_le, Decidable.not_not] at hc17
    refine g_seq (fun K3 hK3 => ?_)
    refine g_region ?_
    refine g_step rfl (s_callp rfl rfl rfl (awake25_ok _) ?_)
    rintro _ rfl
    refine g_step rfl (s_val (v_assign rfl) rfl rfl ?_)
    refine g_nil ?_
    refine g_next hK3 ?_
    refine g_ret ?_
    refine g_then_ret ?_
    refine g_end1 (.inl rfl) Try.results8 (.tmp rfl) [] (ASub.refl _) (by first | exact AHeap.sub_refl _ | exact hsub) (fun p hp => by cases hp) ⟨rfl, ?_⟩
    rfl
  · try simp only [decide_eq_true_eq, decide_eq_false_iff_not, Bool.not_eq_true', Bool.not_eq_false', Bool.not_eq_eq_eq_not, Bool.not_true, Bool.not_false, Bool.and_eq_true, Bool.or_eq_true, Bool.or_eq_false_iff, beq_iff_eq, beq_eq_false_iff_ne, ne_eq, Int.not_lt, Int.not_le, Decidable.not_not] at hc17
    obtain ⟨hal, hb0, hab⟩ := fewA_all (own := own) (acts := acts) (by simpa using hc17)
    refine g_skip ?_
    refine g_next hK1 ?_
    refine g_seq (fun K4 hK4 => ?_)
    refine g_region ?_
    rcases begin_cases own room with hbad | ⟨hv, h0, hrg⟩ | ⟨hv, h0, h1, h48⟩
    · skip
      refine g_step rfl (s_val (by first | exact v_loadl_all ty46 rfl rfl rfl rfl rfl | exact v_loadl_part (cs := [_, _, _, _, _, _, _]) ty46 rfl rfl rfl rfl rfl rfl) rfl rfl ?_)
      refine g_step rfl (s_val (v_move rfl) rfl rfl ?_)
      refine g_step rfl (s_callp rfl rfl rfl (begin1_ok own room _ hb0 hbad) ?_)
      rintro _ rfl
      refine g_step rfl (s_val (v_move rfl) rfl rfl ?_)
      refine g_step rfl (s_val (v_extract rfl rfl) rfl rfl ?_)
      refine g_step rfl (s_val (v_extract rfl rfl) rfl rfl ?_)
      refine g_step rfl (s_val (v_assign rfl) rfl rfl ?_)
      refine g_step rfl (s_val (v_assign rfl) rfl rfl ?_)
      refine g_nil ?_
      refine g_next hK4 ?_
      refine g_seq (fun K5 hK5 => ?_)
      refine g_seq (fun K6 hK6 => ?_)
      refine g_region ?_
      refine g_step rfl (s_val (v_move rfl) rfl rfl ?_)
      refine g_step rfl (s_val (v_neq rfl rfl) rfl rfl ?_)
      refine g_step rfl (s_val (v_move rfl) rfl rfl ?_)
      refine g_split 27 rfl (fun hg27 => ?_) (fun hg27 => ?_)
      · try simp only [decide_eq_true_eq, decide_eq_false_iff_not, Bool.not_eq_true', Bool.not_eq_false', Bool.not_eq_eq_eq_not, Bool.not_true, Bool.not_false, Bool.and_eq_true, Bool.or_eq_true, Bool.or_eq_false_iff, beq_iff_eq, beq_eq_false_iff_ne, ne_eq, Int.not_lt, Int.not_le, Decidable.not_not] at hg27
        refine g_step_no (j := 2) (t := 27) rfl rfl rfl rfl rfl rfl rfl ?_
        refine g_step_no (j := 2) (t := 27) rfl rfl rfl rfl rfl rfl rfl ?_
        refine g_step rfl (s_val (v_pick_t rfl rfl) rfl rfl ?_)
        refine g_nil ?_
        refine g_next hK6 ?_
        refine g_cond rfl (fun _ => ?_) (fun h => by cases h)
        refine g_seq (fun K7 hK7 => ?_)
        refine g_region ?_
        refine g_step rfl (s_val (by first | exact v_loadl_all ty46 rfl rfl rfl rfl rfl | exact v_loadl_part (cs := [_, _, _, _, _, _, _]) ty46 rfl rfl rfl rfl rfl rfl) rfl rfl ?_)
        refine g_step rfl (s_callp rfl rfl rfl (recValid_ok own _ hb0) ?_)
        rintro _ rfl
        refine g_step rfl (s_val (v_not rfl) rfl rfl ?_)
        refine g_step rfl (s_val (v_move rfl) rfl rfl ?_)
        refine g_split 34 rfl (fun hg34 => ?_) (fun hg34 => ?_)
        · try simp only [decide_eq_true_eq, decide_eq_false_iff_not, Bool.not_eq_true', Bool.not_eq_false', Bool.not_eq_eq_eq_not, Bool.not_true, Bool.not_false, Bool.and_eq_true, Bool.or_eq_true, Bool.or_eq_false_iff, beq_iff_eq, beq_eq_false_iff_ne, ne_eq, Int.not_lt, Int.not_le, Decidable.not_not] at hg34
          refine g_step_no (j := 3) (t := 34) rfl rfl rfl rfl rfl rfl rfl ?_
          refine g_step_no (j := 3) (t := 34) rfl rfl rfl rfl rfl rfl rfl ?_
          refine g_step_no (j := 3) (t := 34) rfl rfl rfl rfl rfl rfl rfl ?_
          refine g_step rfl (s_val (v_pick_t rfl rfl) rfl rfl ?_)
          refine g_step rfl (s_val (v_move rfl) rfl rfl ?_)
          refine g_step_no (j := 8) (t := 39) rfl rfl rfl rfl rfl rfl rfl ?_
          refine g_step_no (j := 8) (t := 39) rfl rfl rfl rfl rfl rfl rfl ?_
          refine g_step rfl (s_val (v_pick_t rfl rfl) rfl rfl ?_)
          refine g_step rfl (s_val (v_move rfl) rfl rfl ?_)
          refine g_step_no (j := 12) (t := 43) rfl rfl rfl rfl rfl rfl rfl ?_
          refine g_step_no (j := 12) (t := 43) rfl rfl rfl rfl rfl rfl rfl ?_
          refine g_step rfl (s_val (v_pick_t rfl rfl) rfl rfl ?_)
          refine g_step rfl (s_val (v_move rfl) rfl rfl ?_)
          refine g_step_yes (j := 16) (t := 47) rfl rfl rfl rfl (s_callp rfl rfl rfl (awake25_ok _) ?_)
          rintro _ rfl
          refine g_step rfl (s_val (v_pick_t rfl rfl) rfl rfl ?_)
          refine g_step rfl (s_val (v_assign rfl) rfl rfl ?_)
          refine g_nil ?_
          refine g_next hK7 ?_
          first | refine g_keep [6] [] [] (keep_cons rfl keep_nil) lkeep_nil keep_nil rfl ?_ | refine g_keep [6] [] [] rfl rfl rfl rfl ?_
          refine g_ret ?_
          refine g_then_ret ?_
          refine g_end1 (.inl rfl) Try.results8 (.tmp rfl) [] (ASub.refl _) (by first | exact AHeap.sub_refl _ | exact hsub) (fun p hp => by cases hp) ⟨rfl, ?_⟩
          rfl
        · try simp only [decide_eq_true_eq, decide_eq_false_iff_not, Bool.not_eq_true', Bool.not_eq_false', Bool.not_eq_eq_eq_not, Bool.not_true, Bool.not_false, Bool.and_eq_true, Bool.or_eq_true, Bool.or_eq_false_iff, beq_iff_eq, beq_eq_false_iff_ne, ne_eq, Int.not_lt, Int.not_le, Decidable.not_not] at hg34
          refine g_step_yes (j := 3) (t := 34) rfl rfl rfl rfl (s_fieldAddr ty46 fo46_2 ty3 rfl rfl ?_)
          refine g_step_yes (j := 3) (t := 34) rfl rfl rfl rfl (s_val (v_loadl ty3 rfl rfl rfl rfl) rfl rfl ?_)
          refine g_step_yes (j := 3) (t := 34) rfl rfl rfl rfl (s_val (v_neq rfl rfl) rfl rfl ?_)
          refine g_step rfl (s_val (v_pick_f rfl rfl) rfl rfl ?_)
          refine g_step rfl (s_val (v_move rfl) rfl rfl ?_)
          refine g_split 39 rfl (fun hg39 => ?_) (fun hg39 => ?_)
          · try simp only [decide_eq_true_eq, decide_eq_false_iff_not, Bool.not_eq_true', Bool.not_eq_false', Bool.not_eq_eq_eq_not, Bool.not_true, Bool.not_false, Bool.and_eq_true, Bool.or_eq_true, Bool.or_eq_false_iff, beq_iff_eq, beq_eq_false_iff_ne, ne_eq, Int.not_lt, Int.not_le, Decidable.not_not] at hg39
            refine g_step_no (j := 8) (t := 39) rfl rfl rfl rfl rfl rfl rfl ?_
            refine g_step_no (j := 8) (t := 39) rfl rfl rfl rfl rfl rfl rfl ?_
            refine g_step rfl (s_val (v_pick_t rfl rfl) rfl rfl ?_)
            refine g_step rfl (s_val (v_move rfl) rfl rfl ?_)
            refine g_step_no (j := 12) (t := 43) rfl rfl rfl rfl rfl rfl rfl ?_
            refine g_step_no (j := 12) (t := 43) rfl rfl rfl rfl rfl rfl rfl ?_
            refine g_step rfl (s_val (v_pick_t rfl rfl) rfl rfl ?_)
            refine g_step rfl (s_val (v_move rfl) rfl rfl ?_)
            refine g_step_yes (j := 16) (t := 47) rfl rfl rfl rfl (s_callp rfl rfl rfl (awake25_ok _) ?_)
            rintro _ rfl
            refine g_step rfl (s_val (v_pick_t rfl rfl) rfl rfl ?_)
            refine g_step rfl (s_val (v_assign rfl) rfl rfl ?_)
            refine g_nil ?_
            refine g_next hK7 ?_
            first | refine g_keep [6] [] [] (keep_cons rfl keep_nil) lkeep_nil keep_nil rfl ?_ | refine g_keep [6] [] [] rfl rfl rfl rfl ?_
            refine g_ret ?_
            refine g_then_ret ?_
            refine g_end1 (.inl rfl) Try.results8 (.tmp rfl) [] (ASub.refl _) (by first | exact AHeap.sub_refl _ | exact hsub) (fun p hp => by cases hp) ⟨rfl, ?_⟩
            rfl
          · try simp only [decide_eq_true_eq, decide_eq_false_iff_not, Bool.not_eq_true', Bool.not_eq_false', Bool.not_eq_eq_eq_not, Bool.not_true, Bool.not_false, Bool.and_eq_true, Bool.or_eq_true, Bool.or_eq_false_iff, beq_iff_eq, beq_eq_false_iff_ne, ne_eq, Int.not_lt, Int.not_le, Decidable.not_not] at hg39
            refine g_step_yes (j := 8) (t := 39) rfl rfl rfl rfl (s_val (v_move rfl) rfl rfl ?_)
            refine g_step_yes (j := 8) (t := 39) rfl rfl rfl rfl (s_val (v_lss rfl rfl) rfl rfl ?_)
            refine g_step rfl (s_val (v_pick_f rfl rfl) rfl rfl ?_)
            refine g_step rfl (s_val (v_move rfl) rfl rfl ?_)
            refine g_split 43 rfl (fun hg43 => ?_) (fun hg43 => ?_)
            · try simp only [decide_eq_true_eq, decide_eq_false_iff_not, Bool.not_eq_true', Bool.not_eq_false', Bool.not_eq_eq_eq_not, Bool.not_true, Bool.not_false, Bool.and_eq_true, Bool.or_eq_true, Bool.or_eq_false_iff, beq_iff_eq, beq_eq_false_iff_ne, ne_eq, Int.not_lt, Int.not_le, Decidable.not_not] at hg43
              refine g_step_no (j := 12) (t := 43) rfl rfl rfl rfl rfl rfl rfl ?_
              refine g_step_no (j := 12) (t := 43) rfl rfl rfl rfl rfl rfl rfl ?_
              refine g_step rfl (s_val (v_pick_t rfl rfl) rfl rfl ?_)
              refine g_step rfl (s_val (v_move rfl) rfl rfl ?_)
              refine g_step_yes (j := 16) (t := 47) rfl rfl rfl rfl (s_callp rfl rfl rfl (awake25_ok _) ?_)
              rintro _ rfl
              refine g_step rfl (s_val (v_pick_t rfl rfl) rfl rfl ?_)
              refine g_step rfl (s_val (v_assign rfl) rfl rfl ?_)
              refine g_nil ?_
              refine g_next hK7 ?_
              first | refine g_keep [6] [] [] (keep_cons rfl keep_nil) lkeep_nil keep_nil rfl ?_ | refine g_keep [6] [] [] rfl rfl rfl rfl ?_
              refine g_ret ?_
              refine g_then_ret ?_
              refine g_end1 (.inl rfl) Try.results8 (.tmp rfl) [] (ASub.refl _) (by first | exact AHeap.sub_refl _ | exact hsub) (fun p hp => by cases hp) ⟨rfl, ?_⟩
              rfl
            · try simp only [decide_eq_true_eq, decide_eq_false_iff_not, Bool.not_eq_true', Bool.not_eq_false', Bool.not_eq_eq_eq_not, Bool.not_true, Bool.not_false, Bool.and_eq_true, Bool.or_eq_true, Bool.or_eq_false_iff, beq_iff_eq, beq_eq_false_iff_ne, ne_eq, Int.not_lt, Int.not_le, Decidable.not_not] at hg43
              refine g_step_yes (j := 12) (t := 43) rfl rfl rfl rfl (s_val (v_move rfl) rfl rfl ?_)
              refine g_step_yes (j := 12) (t := 43) rfl rfl rfl rfl (s_val (v_gtr rfl rfl) rfl rfl ?_)
              refine g_step rfl (s_val (v_pick_f rfl rfl) rfl rfl ?_)
              refine g_step rfl (s_val (v_move rfl) rfl rfl ?_)
              refine g_split 47 rfl (fun hg47 => ?_) (fun hg47 => ?_)
              · try simp only [decide_eq_true_eq, decide_eq_false_iff_not, Bool.not_eq_true', Bool.not_eq_false', Bool.not_eq_eq_eq_not, Bool.not_true, Bool.not_false, Bool.and_eq_true, Bool.or_eq_true, Bool.or_eq_false_iff, beq_iff_eq, beq_eq_false_iff_ne, ne_eq, Int.not_lt, Int.not_le, Decidable.not_not] at hg47
                refine g_step_yes (j := 16) (t := 47) rfl rfl rfl rfl (s_callp rfl rfl rfl (awake25_ok _) ?_)
                rintro _ rfl
                refine g_step rfl (s_val (v_pick_t rfl rfl) rfl rfl ?_)
                refine g_step rfl (s_val (v_assign rfl) rfl rfl ?_)
                refine g_nil ?_
                refine g_next hK7 ?_
                first | refine g_keep [6] [] [] (keep_cons rfl keep_nil) lkeep_nil keep_nil rfl ?_ | refine g_keep [6] [] [] rfl rfl rfl rfl ?_
                refine g_ret ?_
                refine g_then_ret ?_
                refine g_end1 (.inl rfl) Try.results8 (.tmp rfl) [] (ASub.refl _) (by first | exact AHeap.sub_refl _ | exact hsub) (fun p hp => by cases hp) ⟨rfl, ?_⟩
                rfl
              · exfalso; (try simp only [decide_eq_true_eq, decide_eq_false_iff_not, Bool.not_eq_true', Bool.not_eq_false', Bool.not_eq_eq_eq_not, Bool.not_true, Bool.not_false, Bool.and_eq_true, Bool.or_eq_true, Bool.or_eq_false_iff, beq_iff_eq, beq_eq_false_iff_ne, ne_eq, Int.not_lt, Int.not_le, Decidable.not_not] at hg47); first | (simp_all; done) | (simp_all; omega) | omega
      · exfalso; (try simp only [decide_eq_true_eq, decide_eq_false_iff_not, Bool.not_eq_true', Bool.not_eq_false', Bool.not_eq_eq_eq_not, Bool.not_true, Bool.not_false, Bool.and_eq_true, Bool.or_eq_true, Bool.or_eq_false_iff, beq_iff_eq, beq_eq_false_iff_ne, ne_eq, Int.not_lt, Int.not_le, Decidable.not_not] at hg27); simp at hg27
    · skip
      refine g_step rfl (s_val (by first | exact v_loadl_all ty46 rfl rfl rfl rfl rfl | exact v_loadl_part (cs := [_, _, _, _, _, _, _]) ty46 rfl rfl rfl rfl rfl rfl) rfl rfl ?_)
      refine g_step rfl (s_val (v_move rfl) rfl rfl ?_)
      refine g_step rfl (s_callp rfl rfl rfl (begin5_ok own room _ hb0 hv h0 hrg) ?_)
      rintro _ rfl
      refine g_step rfl (s_val (v_move rfl) rfl rfl ?_)
      refine g_step rfl (s_val (v_extract rfl rfl) rfl rfl ?_)
      refine g_step rfl (s_val (v_extract rfl rfl) rfl rfl ?_)
      refine g_step rfl (s_val (v_assign rfl) rfl rfl ?_)
      refine g_step rfl (s_val (v_assign rfl) rfl rfl ?_)
      refine g_nil ?_
      refine g_next hK4 ?_
      refine g_seq (fun K8 hK8 => ?_)
      refine g_seq (fun K9 hK9 => ?_)
      refine g_region ?_
      refine g_step rfl (s_val (v_move rfl) rfl rfl ?_)
      refine g_step rfl (s_val (v_neq rfl rfl) rfl rfl ?_)
      refine g_step rfl (s_val (v_move rfl) rfl rfl ?_)
      refine g_split 27 rfl (fun hg27 => ?_) (fun hg27 => ?_)
      · try simp only [decide_eq_true_eq, decide_eq_false_iff_not, Bool.not_eq_true', Bool.not_eq_false', Bool.not_eq_eq_eq_not, Bool.not_true, Bool.not_false, Bool.and_eq_true, Bool.or_eq_true, Bool.or_eq_false_iff, beq_iff_eq, beq_eq_false_iff_ne, ne_eq, Int.not_lt, Int.not_le, Decidable.not_not] at hg27
        refine g_step_no (j := 2) (t := 27) rfl rfl rfl rfl rfl rfl rfl ?_
        refine g_step_no (j := 2) (t := 27) rfl rfl rfl rfl rfl rfl rfl ?_
        refine g_step rfl (s_val (v_pick_t rfl rfl) rfl rfl ?_)
        refine g_nil ?_
        refine g_next hK9 ?_
        refine g_cond rfl (fun _ => ?_) (fun h => by cases h)
        refine g_seq (fun K10 hK10 => ?_)
        refine g_region ?_
        refine g_step rfl (s_val (by first | exact v_loadl_all ty46 rfl rfl rfl rfl rfl | exact v_loadl_part (cs := [_, _, _, _, _, _, _]) ty46 rfl rfl rfl rfl rfl rfl) rfl rfl ?_)
        refine g_step rfl (s_callp rfl rfl rfl (recValid_ok own _ hb0) ?_)
        rintro _ rfl
        refine g_step rfl (s_val (v_not rfl) rfl rfl ?_)
        refine g_step rfl (s_val (v_move rfl) rfl rfl ?_)
        refine g_split 34 rfl (fun hg34 => ?_) (fun hg34 => ?_)
        · try simp only [decide_eq_true_eq, decide_eq_false_iff_not, Bool.not_eq_true', Bool.not_eq_false', Bool.not_eq_eq_eq_not, Bool.not_true, Bool.not_false, Bool.and_eq_true, Bool.or_eq_true, Bool.or_eq_false_iff, beq_iff_eq, beq_eq_false_iff_ne, ne_eq, Int.not_lt, Int.not_le, Decidable.not_not] at hg34
          refine g_step_no (j := 3) (t := 34) rfl rfl rfl rfl rfl rfl rfl ?_
          refine g_step_no (j := 3) (t := 34) rfl rfl rfl rfl rfl rfl rfl ?_
          refine g_step_no (j := 3) (t := 34) rfl rfl rfl rfl rfl rfl rfl ?_
          refine g_step rfl (s_val (v_pick_t rfl rfl) rfl rfl ?_)
          refine g_step rfl (s_val (v_move rfl) rfl rfl ?_)
          refine g_step_no (j := 8) (t := 39) rfl rfl rfl rfl rfl rfl rfl ?_
          refine g_step_no (j := 8) (t := 39) rfl rfl rfl rfl rfl rfl rfl ?_
          refine g_step rfl (s_val (v_pick_t rfl rfl) rfl rfl ?_)
          refine g_step rfl (s_val (v_move rfl) rfl rfl ?_)
          refine g_step_no (j := 12) (t := 43) rfl rfl rfl rfl rfl rfl rfl ?_
          refine g_step_no (j := 12) (t := 43) rfl rfl rfl rfl rfl rfl rfl ?_
          refine g_step rfl (s_val (v_pick_t rfl rfl) rfl rfl ?_)
          refine g_step rfl (s_val (v_move rfl) rfl rfl ?_)
          refine g_step_yes (j := 16) (t := 47) rfl rfl rfl rfl (s_callp rfl rfl rfl (awake25_ok _) ?_)
          rintro _ rfl
          refine g_step rfl (s_val (v_pick_t rfl rfl) rfl rfl ?_)
          refine g_step rfl (s_val (v_assign rfl) rfl rfl ?_)
          refine g_nil ?_
          refine g_next hK10 ?_
          first | refine g_keep [6] [] [] (keep_cons rfl keep_nil) lkeep_nil keep_nil rfl ?_ | refine g_keep [6] [] [] rfl rfl rfl rfl ?_
          refine g_ret ?_
          refine g_then_ret ?_
          refine g_end1 (.inl rfl) Try.results8 (.tmp rfl) [] (ASub.refl _) (by first | exact AHeap.sub_refl _ | exact hsub) (fun p hp => by cases hp) ⟨rfl, ?_⟩
          rfl
        · try simp only [decide_eq_true_eq, decide_eq_false_iff_not, Bool.not_eq_true', Bool.not_eq_false', Bool.not_eq_eq_eq_not, Bool.not_true, Bool.not_false, Bool.and_eq_true, Bool.or_eq_true, Bool.or_eq_false_iff, beq_iff_eq, beq_eq_false_iff_ne, ne_eq, Int.not_lt, Int.not_le, Decidable.not_not] at hg34
          refine g_step_yes (j := 3) (t := 34) rfl rfl rfl rfl (s_fieldAddr ty46 fo46_2 ty3 rfl rfl ?_)
          refine g_step_yes (j := 3) (t := 34) rfl rfl rfl rfl (s_val (v_loadl ty3 rfl rfl rfl rfl) rfl rfl ?_)
          refine g_step_yes (j := 3) (t := 34) rfl rfl rfl rfl (s_val (v_neq rfl rfl) rfl rfl ?_)
          refine g_step rfl (s_val (v_pick_f rfl rfl) rfl rfl ?_)
          refine g_step rfl (s_val (v_move rfl) rfl rfl ?_)
          refine g_split 39 rfl (fun hg39 => ?_) (fun hg39 => ?_)
          · try simp only [decide_eq_true_eq, decide_eq_false_iff_not, Bool.not_eq_true', Bool.not_eq_false', Bool.not_eq_eq_eq_not, Bool.not_true, Bool.not_false, Bool.and_eq_true, Bool.or_eq_true, Bool.or_eq_false_iff, beq_iff_eq, beq_eq_false_iff_ne, ne_eq, Int.not_lt, Int.not_le, Decidable.not_not] at hg39
            refine g_step_no (j := 8) (t := 39) rfl rfl rfl rfl rfl rfl rfl ?_
            refine g_step_no (j := 8) (t := 39) rfl rfl rfl rfl rfl rfl rfl ?_
            refine g_step rfl (s_val (v_pick_t rfl rfl) rfl rfl ?_)
            refine g_step rfl (s_val (v_move rfl) rfl rfl ?_)
            refine g_step_no (j := 12) (t := 43) rfl rfl rfl rfl rfl rfl rfl ?_
            refine g_step_no (j := 12) (t := 43) rfl rfl rfl rfl rfl rfl rfl ?_
            refine g_step rfl (s_val (v_pick_t rfl rfl) rfl rfl ?_)
            refine g_step rfl (s_val (v_move rfl) rfl rfl ?_)
            refine g_step_yes (j := 16) (t := 47) rfl rfl rfl rfl (s_callp rfl rfl rfl (awake25_ok _) ?_)
            rintro _ rfl
            refine g_step rfl (s_val (v_pick_t rfl rfl) rfl rfl ?_)
            refine g_step rfl (s_val (v_assign rfl) rfl rfl ?_)
            refine g_nil ?_
            refine g_next hK10 ?_
            first | refine g_keep [6] [] [] (keep_cons rfl keep_nil) lkeep_nil keep_nil rfl ?_ | refine g_keep [6] [] [] rfl rfl rfl rfl ?_
            refine g_ret ?_
            refine g_then_ret ?_
            refine g_end1 (.inl rfl) Try.results8 (.tmp rfl) [] (ASub.refl _) (by first | exact AHeap.sub_refl _ | exact hsub) (fun p hp => by cases hp) ⟨rfl, ?_⟩
            rfl
          · try simp only [decide_eq_true_eq, decide_eq_false_iff_not, Bool.not_eq_true', Bool.not_eq_false', Bool.not_eq_eq_eq_not, Bool.not_true, Bool.not_false, Bool.and_eq_true, Bool.or_eq_true, Bool.or_eq_false_iff, beq_iff_eq, beq_eq_false_iff_ne, ne_eq, Int.not_lt, Int.not_le, Decidable.not_not] at hg39
            refine g_step_yes (j := 8) (t := 39) rfl rfl rfl rfl (s_val (v_move rfl) rfl rfl ?_)
            refine g_step_yes (j := 8) (t := 39) rfl rfl rfl rfl (s_val (v_lss rfl rfl) rfl rfl ?_)
            refine g_step rfl (s_val (v_pick_f rfl rfl) rfl rfl ?_)
            refine g_step rfl (s_val (v_move rfl) rfl rfl ?_)
            refine g_split 43 rfl (fun hg43 => ?_) (fun hg43 => ?_)
            · try simp only [decide_eq_true_eq, decide_eq_false_iff_not, Bool.not_eq_true', Bool.not_eq_false', Bool.not_eq_eq_eq_not, Bool.not_true, Bool.not_false, Bool.and_eq_true, Bool.or_eq_true, Bool.or_eq_false_iff, beq_iff_eq, beq_eq_false_iff_ne, ne_eq, Int.not_lt, Int.not_le, Decidable.not_not] at hg43
              refine g_step_no (j := 12) (t := 43) rfl rfl rfl rfl rfl rfl rfl ?_
              refine g_step_no (j := 12) (t := 43) rfl rfl rfl rfl rfl rfl rfl ?_
              refine g_step rfl (s_val (v_pick_t rfl rfl) rfl rfl ?_)
              refine g_step rfl (s_val (v_move rfl) rfl rfl ?_)
              refine g_step_yes (j := 16) (t := 47) rfl rfl rfl rfl (s_callp rfl rfl rfl (awake25_ok _) ?_)
              rintro _ rfl
              refine g_step rfl (s_val (v_pick_t rfl rfl) rfl rfl ?_)
              refine g_step rfl (s_val (v_assign rfl) rfl rfl ?_)
              refine g_nil ?_
              refine g_next hK10 ?_
              first | refine g_keep [6] [] [] (keep_cons rfl keep_nil) lkeep_nil keep_nil rfl ?_ | refine g_keep [6] [] [] rfl rfl rfl rfl ?_
              refine g_ret ?_
              refine g_then_ret ?_
              refine g_end1 (.inl rfl) Try.results8 (.tmp rfl) [] (ASub.refl _) (by first | exact AHeap.sub_refl _ | exact hsub) (fun p hp => by cases hp) ⟨rfl, ?_⟩
              rfl
            · try simp only [decide_eq_true_eq, decide_eq_false_iff_not, Bool.not_eq_true', Bool.not_eq_false', Bool.not_eq_eq_eq_not, Bool.not_true, Bool.not_false, Bool.and_eq_true, Bool.or_eq_true, Bool.or_eq_false_iff, beq_iff_eq, beq_eq_false_iff_ne, ne_eq, Int.not_lt, Int.not_le, Decidable.not_not] at hg43
              refine g_step_yes (j := 12) (t := 43) rfl rfl rfl rfl (s_val (v_move rfl) rfl rfl ?_)
              refine g_step_yes (j := 12) (t := 43) rfl rfl rfl rfl (s_val (v_gtr rfl rfl) rfl rfl ?_)
              refine g_step rfl (s_val (v_pick_f rfl rfl) rfl rfl ?_)
              refine g_step rfl (s_val (v_move rfl) rfl rfl ?_)
              refine g_split 47 rfl (fun hg47 => ?_) (fun hg47 => ?_)
              · try simp only [decide_eq_true_eq, decide_eq_false_iff_not, Bool.not_eq_true', Bool.not_eq_false', Bool.not_eq_eq_eq_not, Bool.not_true, Bool.not_false, Bool.and_eq_true, Bool.or_eq_true, Bool.or_eq_false_iff, beq_iff_eq, beq_eq_false_iff_ne, ne_eq, Int.not_lt, Int.not_le, Decidable.not_not] at hg47
                refine g_step_yes (j := 16) (t := 47) rfl rfl rfl rfl (s_callp rfl rfl rfl (awake25_ok _) ?_)
                rintro _ rfl
                refine g_step rfl (s_val (v_pick_t rfl rfl) rfl rfl ?_)
                refine g_step rfl (s_val (v_assign rfl) rfl rfl ?_)
                refine g_nil ?_
                refine g_next hK10 ?_
                first | refine g_keep [6] [] [] (keep_cons rfl keep_nil) lkeep_nil keep_nil rfl ?_ | refine g_keep [6] [] [] rfl rfl rfl rfl ?_
                refine g_ret ?_
                refine g_then_ret ?_
                refine g_end1 (.inl rfl) Try.results8 (.tmp rfl) [] (ASub.refl _) (by first | exact AHeap.sub_refl _ | exact hsub) (fun p hp => by cases hp) ⟨rfl, ?_⟩
                rfl
              · exfalso; (try simp only [decide_eq_true_eq, decide_eq_false_iff_not, Bool.not_eq_true', Bool.not_eq_false', Bool.not_eq_eq_eq_not, Bool.not_true, Bool.not_false, Bool.and_eq_true, Bool.or_eq_true, Bool.or_eq_false_iff, beq_iff_eq, beq_eq_false_iff_ne, ne_eq, Int.not_lt, Int.not_le, Decidable.not_not] at hg47); first | (simp_all; done) | (simp_all; omega) | omega
      · exfalso; (try simp only [decide_eq_true_eq, decide_eq_false_iff_not, Bool.not_eq_true', Bool.not_eq_false', Bool.not_eq_eq_eq_not, Bool.not_true, Bool.not_false, Bool.and_eq_true, Bool.or_eq_true, Bool.or_eq_false_iff, beq_iff_eq, beq_eq_false_iff_ne, ne_eq, Int.not_lt, Int.not_le, Decidable.not_not] at hg27); simp at hg27
    · skip
      refine g_step rfl (s_val (by first | exact v_loadl_all ty46 rfl rfl rfl rfl rfl | exact v_loadl_part (cs := [_, _, _, _, _, _, _]) ty46 rfl rfl rfl rfl rfl rfl) rfl rfl ?_)
      refine g_step rfl (s_val (v_move rfl) rfl rfl ?_)
      refine g_step rfl (s_call rfl rfl rfl (begin_ok own room _ hb0 hv h0 h1 h48) (fun _ h => h.elim) ?_)
      rintro n1 rv1 effs1 hn1 hdom1 ⟨p, q, hp1, hq1, hpq, rfl, rfl⟩ hok1
      obtain ⟨r, hT, hnp, hnr, hsub⟩ := begin_st (own := own) (room := room) hw0 (G := H) (AHeap.sub_refl _) (Nat.le_trans hn1 hp1) (Nat.le_trans hn1 hq1) hpq
      generalize setAll H _ = G1 at hT hsub ⊢
      refine g_step rfl (s_val (v_move rfl) rfl rfl ?_)
      refine g_step rfl (s_val (v_extract rfl rfl) rfl rfl ?_)
      refine g_step rfl (s_val (v_extract rfl rfl) rfl rfl ?_)
      refine g_step rfl (s_val (v_assign rfl) rfl rfl ?_)
      refine g_step rfl (s_val (v_assign rfl) rfl rfl ?_)
      refine g_nil ?_
      refine g_next hK4 ?_
      refine g_seq (fun K11 hK11 => ?_)
      refine g_seq (fun K12 hK12 => ?_)
      refine g_region ?_
      refine g_step rfl (s_val (v_move rfl) rfl rfl ?_)
      refine g_step rfl (s_val (v_neq rfl rfl) rfl rfl ?_)
      refine g_step rfl (s_val (v_move rfl) rfl rfl ?_)
      refine g_split 27 rfl (fun hg27 => ?_) (fun hg27 => ?_)
      · exfalso; (try simp only [decide_eq_true_eq, decide_eq_false_iff_not, Bool.not_eq_true', Bool.not_eq_false', Bool.not_eq_eq_eq_not, Bool.not_true, Bool.not_false, Bool.and_eq_true, Bool.or_eq_true, Bool.or_eq_false_iff, beq_iff_eq, beq_eq_false_iff_ne, ne_eq, Int.not_lt, Int.not_le, Decidable.not_not] at hg27); simp at hg27
      · try simp only [decide_eq_true_eq, decide_eq_false_iff_not, Bool.not_eq_true', Bool.not_eq_false', Bool.not_eq_eq_eq_not, Bool.not_true, Bool.not_false, Bool.and_eq_true, Bool.or_eq_true, Bool.or_eq_false_iff, beq_iff_eq, beq_eq_false_iff_ne, ne_eq, Int.not_lt, Int.not_le, Decidable.not_not] at hg27
        refine g_step_yes (j := 2) (t := 27) rfl rfl rfl rfl (s_val (v_move rfl) rfl rfl ?_)
        refine g_step_yes (j := 2) (t := 27) rfl rfl rfl rfl (s_val (by first | exact v_ptr_eql_nil ty48 rfl rfl rfl | exact v_nil_eql_nil ty48 rfl rfl | exact v_ptrO_eql ty48 rfl rfl) rfl rfl ?_)
        refine g_step rfl (s_val (v_pick_f rfl rfl) rfl rfl ?_)
        refine g_nil ?_
        refine g_next hK12 ?_
        refine g_cond rfl (fun hc30 => ?_) (fun hc30 => ?_)
        · exfalso; (try simp only [decide_eq_true_eq, decide_eq_false_iff_not, Bool.not_eq_true', Bool.not_eq_false', Bool.not_eq_eq_eq_not, Bool.not_true, Bool.not_false, Bool.and_eq_true, Bool.or_eq_true, Bool.or_eq_false_iff, beq_iff_eq, beq_eq_false_iff_ne, ne_eq, Int.not_lt, Int.not_le, Decidable.not_not] at hc30); simp at hc30
        · try simp only [decide_eq_true_eq, decide_eq_false_iff_not, Bool.not_eq_true', Bool.not_eq_false', Bool.not_eq_eq_eq_not, Bool.not_true, Bool.not_false, Bool.and_eq_true, Bool.or_eq_true, Bool.or_eq_false_iff, beq_iff_eq, beq_eq_false_iff_ne, ne_eq, Int.not_lt, Int.not_le, Decidable.not_not] at hc30
          refine g_skip ?_
          refine g_next hK11 ?_
          refine g_seq (fun K13 hK13 => ?_)
          refine g_region ?_
          refine g_step rfl (s_val (v_move rfl) rfl rfl ?_)
          refine g_step rfl (s_callp rfl rfl rfl (mall_ok p r own.id room [own] _ hT (by simp) (by simpa using hb0)) ?_)
          rintro _ rfl
          refine g_step rfl (s_val (v_assign rfl) rfl rfl ?_)
          refine g_nil ?_
          refine g_next hK13 ?_
          first | refine g_keep [1, 2, 7, 9] [3] [3] (keep_cons rfl (keep_cons rfl (keep_cons rfl (keep_cons rfl keep_nil)))) (lkeep_cons rfl lkeep_nil) (keep_cons rfl keep_nil) rfl ?_ | refine g_keep [1, 2, 7, 9] [3] [3] rfl rfl rfl rfl ?_
          refine g_seq (fun K14 hK14 => ?_)
          refine g_region ?_
          refine g_step rfl (s_val (v_assign rfl) rfl rfl ?_)
          refine g_nil ?_
          refine g_next hK14 ?_
          refine g_seq (fun K15 hK15 => ?_)
          refine g_seq (fun K16 hK16 => ?_)
          refine g_region ?_
          refine g_step rfl (s_val (v_assign rfl) rfl rfl ?_)
          refine g_nil ?_
          refine g_next hK16 ?_
          refine g_block ?_
          first | refine g_keep [1, 2, 7, 9, 10, 11] [3] [3] (keep_cons rfl (keep_cons rfl (keep_cons rfl (keep_cons rfl (keep_cons rfl (keep_cons rfl keep_nil)))))) (lkeep_cons rfl lkeep_nil) (keep_cons rfl keep_nil) rfl ?_ | refine g_keep [1, 2, 7, 9, 10, 11] [3] [3] rfl rfl rfl rfl ?_
          refine g_loop (fun n env L B G => ∃ (k : Nat) (l : List Rc) (lf : Bool) (r : Nat), k ≤ acts.length ∧ n = acts.length - k ∧ env = [(1, .int .i64 room), (2, .imm (acts.map encAc)), (7, .box p 0), (9, (encRs l)), (10, .bool lf), (11, .int .i64 (k : Int))] ∧ L = [(3, 3, 0)] ∧ B = [(3, (encR own))] ∧ Tb G p r own.id room l ∧ w0.heap.size ≤ r ∧ H.sub G ∧ MInv own.id room l ∧ (∃ o, fnd l own.id = some o ∧ o.sp = own.sp ∧ o.st = (if lf = true then 3 else 0))) (acts.length) ⟨0, [own], false, r, Nat.zero_le _, rfl, rfl, rfl, rfl, ⟨hT, hnr, hsub, begin_inv hv hb0 h1 h48, own, fnd_one own, rfl, h0⟩⟩ (fun n env L B G hI => ?_)
          obtain ⟨k, l, lf, r, hk, rfl, rfl, rfl, rfl, hT, hnr, hsub, hm, ⟨o, ho, hosp, host⟩⟩ := hI
          refine g_seq (fun K17 hK17 => ?_)
          refine g_seq (fun K18 hK18 => ?_)
          refine g_region ?_
          refine g_step rfl (s_val (v_move rfl) rfl rfl ?_)
          refine g_step rfl (s_val (v_move rfl) rfl rfl ?_)
          refine g_step rfl (s_val (v_len ty58 rfl (by first | rfl | assumption) (by first | exact List.length_map .. | rfl)) rfl rfl ?_)
          refine g_step rfl (s_val (v_lss rfl rfl) rfl rfl ?_)
          refine g_nil ?_
          refine g_next hK18 ?_
          refine g_cond rfl (fun hc55 => ?_) (fun hc55 => ?_)
          · try simp only [decide_eq_true_eq, decide_eq_false_iff_not, Bool.not_eq_true', Bool.not_eq_false', Bool.not_eq_eq_eq_not, Bool.not_true, Bool.not_false, Bool.and_eq_true, Bool.or_eq_true, Bool.or_eq_false_iff, beq_iff_eq, beq_eq_false_iff_ne, ne_eq, Int.not_lt, Int.not_le, Decidable.not_not] at hc55
            obtain ⟨a, ha⟩ := get_some (l := acts) (k := k) (by omega)
            have hba := hab a (mem_get ha)
            refine g_skip ?_
            refine g_next hK17 ?_
            refine g_seq (fun K19 hK19 => ?_)
            refine g_block ?_
            refine g_seq (fun K20 hK20 => ?_)
            refine g_region ?_
            refine g_step rfl (s_val (v_move rfl) rfl rfl ?_)
            refine g_step rfl (s_val (v_move rfl) rfl rfl ?_)
            refine g_step rfl (s_val (v_move rfl) rfl rfl ?_)
            refine g_step rfl (s_val (v_indexAddr ty58 ty65 rfl rfl (by first | rfl | assumption) (by first | rfl | exact (rfl : (0 : Int) = ((0 : Nat) : Int)) | exact (Int.toNat_of_nonneg (by omega)).symm) (map_get ha) rfl) rfl rfl ?_)
            refine g_step rfl (s_val (by first | exact v_load_elt ty65 rfl rfl (by first | rfl | assumption) (map_get ha) rfl rfl | exact v_load_box_all ty65 rfl rfl (by assumption) rfl rfl | exact v_load_part (cs := [_, _, _, _, _, _, _, _]) ty65 rfl rfl (by first | rfl | assumption) (map_get ha) rfl rfl rfl | exact v_load_box_part (cs := [_, _, _, _, _, _, _, _]) ty65 rfl rfl (by assumption) rfl rfl rfl) rfl rfl ?_)
            refine g_step rfl (s_call rfl rfl rfl (play25_ok p r own.id room l a _ hT hm hba) (fun b hb => .inr (by rcases hb with rfl | rfl; exact hnp; exact hnr)) ?_)
            rintro n2 rv2 effs2 hn2 hdom2 ⟨rfl, hTE⟩ hok2
            obtain ⟨r2, hT2, _, hnr2, hsub2⟩ := MSt.step hw0 hT hnp hnr hsub hn2 hdom2 hTE
            obtain ⟨hm2, hu2, o2, ho2, hsp2, hst2⟩ := do_step hm ho hba
            clear hTE hok2
            generalize setAll _ effs2 = G2 at hT2 hsub2 ⊢
            have hsp3 : o2.sp = own.sp := hsp2.trans hosp
            have hl48 := hm.len
            have hl482 := hm2.len
            have hro2 : (rfind (doL own.id room l a).1 own.id).1 = o2 := by rw [rfind_fst, ho2]; rfl
            refine g_nil ?_
            refine g_next hK20 ?_
            refine g_cut (fun env L B G => ∃ (lf2 : Bool), env = [(1, .int .i64 room), (2, .imm (acts.map encAc)), (7, .box p 0), (9, (encRs l)), (10, .bool lf2), (11, .int .i64 (k : Int))] ∧ L = [(3, 3, 0)] ∧ B = [(3, (encR own))] ∧ Tb G p r2 own.id room (doL own.id room l a).1 ∧ H.sub G ∧ lf2 = (lf || leftA a)) ?_ (fun env L B G hI => ?_)
            · skip
              refine g_seq (fun K21 hK21 => ?_)
              refine g_region ?_
              refine g_step rfl (s_val (v_move rfl) rfl rfl ?_)
              refine g_step rfl (s_val (v_move rfl) rfl rfl ?_)
              refine g_step rfl (s_val (v_indexAddr ty58 ty65 rfl rfl (by first | rfl | assumption) (by first | rfl | exact (rfl : (0 : Int) = ((0 : Nat) : Int)) | exact (Int.toNat_of_nonneg (by omega)).symm) (map_get ha) rfl) rfl rfl ?_)
              refine g_step rfl (s_val (by first | exact v_fieldAddr ty65 fo65_0 ty3 rfl | exact v_fieldAddr_box ty65 fo65_0 ty3 rfl) rfl rfl ?_)
              refine g_step rfl (s_val (by first | exact v_load ty3 rfl rfl (by first | rfl | assumption) (map_get ha) rfl | exact v_load_box ty3 rfl rfl (by assumption) rfl) rfl rfl ?_)
              refine g_step rfl (s_val (v_lss rfl rfl) rfl rfl ?_)
              refine g_step rfl (s_val (v_move rfl) rfl rfl ?_)
              refine g_split 70 rfl (fun hg70 => ?_) (fun hg70 => ?_)
              · try simp only [decide_eq_true_eq, decide_eq_false_iff_not, Bool.not_eq_true', Bool.not_eq_false', Bool.not_eq_eq_eq_not, Bool.not_true, Bool.not_false, Bool.and_eq_true, Bool.or_eq_true, Bool.or_eq_false_iff, beq_iff_eq, beq_eq_false_iff_ne, ne_eq, Int.not_lt, Int.not_le, Decidable.not_not] at hg70
                refine g_step_no (j := 6) (t := 70) rfl rfl rfl rfl rfl rfl rfl ?_
                refine g_step_no (j := 6) (t := 70) rfl rfl rfl rfl rfl rfl rfl ?_
                refine g_step_no (j := 6) (t := 70) rfl rfl rfl rfl rfl rfl rfl ?_
                refine g_step_no (j := 6) (t := 70) rfl rfl rfl rfl rfl rfl rfl ?_
                refine g_step_no (j := 6) (t := 70) rfl rfl rfl rfl rfl rfl rfl ?_
                refine g_step_no (j := 6) (t := 70) rfl rfl rfl rfl rfl rfl rfl ?_
                refine g_step rfl (s_val (v_pick_t rfl rfl) rfl rfl ?_)
                refine g_nil ?_
                refine g_next hK21 ?_
                first | refine g_keep [1, 2, 7, 9, 10, 11, 77] [3] [3] (keep_cons rfl (keep_cons rfl (keep_cons rfl (keep_cons rfl (keep_cons rfl (keep_cons rfl (keep_cons rfl keep_nil))))))) (lkeep_cons rfl lkeep_nil) (keep_cons rfl keep_nil) rfl ?_ | refine g_keep [1, 2, 7, 9, 10, 11, 77] [3] [3] rfl rfl rfl rfl ?_
                refine g_cond rfl (fun _ => ?_) (fun h => by cases h)
                refine g_region ?_
                refine g_step rfl (s_val (v_assign rfl) rfl rfl ?_)
                refine g_nil ?_
                first | refine g_keep [1, 2, 7, 9, 10, 11] [3] [3] (keep_cons rfl (keep_cons rfl (keep_cons rfl (keep_cons rfl (keep_cons rfl (keep_cons rfl keep_nil)))))) (lkeep_cons rfl lkeep_nil) (keep_cons rfl keep_nil) rfl ?_ | refine g_keep [1, 2, 7, 9, 10, 11] [3] [3] rfl rfl rfl rfl ?_
                first | exact g_has ⟨true, rfl, rfl, rfl, ⟨hT2, hsub2, by rw [leftA_yes (by omega), Bool.or_true]⟩⟩ | exact g_has ⟨lf, rfl, rfl, rfl, ⟨hT2, hsub2, by rw [leftA_no (by omega), Bool.or_false]⟩⟩
              · try simp only [decide_eq_true_eq, decide_eq_false_iff_not, Bool.not_eq_true', Bool.not_eq_false', Bool.not_eq_eq_eq_not, Bool.not_true, Bool.not_false, Bool.and_eq_true, Bool.or_eq_true, Bool.or_eq_false_iff, beq_iff_eq, beq_eq_false_iff_ne, ne_eq, Int.not_lt, Int.not_le, Decidable.not_not] at hg70
                refine g_step_yes (j := 6) (t := 70) rfl rfl rfl rfl (s_val (v_move rfl) rfl rfl ?_)
                refine g_step_yes (j := 6) (t := 70) rfl rfl rfl rfl (s_val (v_move rfl) rfl rfl ?_)
                refine g_step_yes (j := 6) (t := 70) rfl rfl rfl rfl (s_val (v_indexAddr ty58 ty65 rfl rfl (by first | rfl | assumption) (by first | rfl | exact (rfl : (0 : Int) = ((0 : Nat) : Int)) | exact (Int.toNat_of_nonneg (by omega)).symm) (map_get ha) rfl) rfl rfl ?_)
                refine g_step_yes (j := 6) (t := 70) rfl rfl rfl rfl (s_val (by first | exact v_fieldAddr ty65 fo65_0 ty3 rfl | exact v_fieldAddr_box ty65 fo65_0 ty3 rfl) rfl rfl ?_)
                refine g_step_yes (j := 6) (t := 70) rfl rfl rfl rfl (s_val (by first | exact v_load ty3 rfl rfl (by first | rfl | assumption) (map_get ha) rfl | exact v_load_box ty3 rfl rfl (by assumption) rfl) rfl rfl ?_)
                refine g_step_yes (j := 6) (t := 70) rfl rfl rfl rfl (s_val (v_gtr rfl rfl) rfl rfl ?_)
                refine g_step rfl (s_val (v_pick_f rfl rfl) rfl rfl ?_)
                refine g_nil ?_
                refine g_next hK21 ?_
                first | refine g_keep [1, 2, 7, 9, 10, 11, 77] [3] [3] (keep_cons rfl (keep_cons rfl (keep_cons rfl (keep_cons rfl (keep_cons rfl (keep_cons rfl (keep_cons rfl keep_nil))))))) (lkeep_cons rfl lkeep_nil) (keep_cons rfl keep_nil) rfl ?_ | refine g_keep [1, 2, 7, 9, 10, 11, 77] [3] [3] rfl rfl rfl rfl ?_
                refine g_cond rfl (fun hc77 => ?_) (fun hc77 => ?_)
                · try simp only [decide_eq_true_eq, decide_eq_false_iff_not, Bool.not_eq_true', Bool.not_eq_false', Bool.not_eq_eq_eq_not, Bool.not_true, Bool.not_false, Bool.and_eq_true, Bool.or_eq_true, Bool.or_eq_false_iff, beq_iff_eq, beq_eq_false_iff_ne, ne_eq, Int.not_lt, Int.not_le, Decidable.not_not] at hc77
                  refine g_region ?_
                  refine g_step rfl (s_val (v_assign rfl) rfl rfl ?_)
                  refine g_nil ?_
                  first | refine g_keep [1, 2, 7, 9, 10, 11] [3] [3] (keep_cons rfl (keep_cons rfl (keep_cons rfl (keep_cons rfl (keep_cons rfl (keep_cons rfl keep_nil)))))) (lkeep_cons rfl lkeep_nil) (keep_cons rfl keep_nil) rfl ?_ | refine g_keep [1, 2, 7, 9, 10, 11] [3] [3] rfl rfl rfl rfl ?_
                  first | exact g_has ⟨true, rfl, rfl, rfl, ⟨hT2, hsub2, by rw [leftA_yes (by omega), Bool.or_true]⟩⟩ | exact g_has ⟨lf, rfl, rfl, rfl, ⟨hT2, hsub2, by rw [leftA_no (by omega), Bool.or_false]⟩⟩
                · try simp only [decide_eq_true_eq, decide_eq_false_iff_not, Bool.not_eq_true', Bool.not_eq_false', Bool.not_eq_eq_eq_not, Bool.not_true, Bool.not_false, Bool.and_eq_true, Bool.or_eq_true, Bool.or_eq_false_iff, beq_iff_eq, beq_eq_false_iff_ne, ne_eq, Int.not_lt, Int.not_le, Decidable.not_not] at hc77
                  refine g_skip ?_
                  first | refine g_keep [1, 2, 7, 9, 10, 11] [3] [3] (keep_cons rfl (keep_cons rfl (keep_cons rfl (keep_cons rfl (keep_cons rfl (keep_cons rfl keep_nil)))))) (lkeep_cons rfl lkeep_nil) (keep_cons rfl keep_nil) rfl ?_ | refine g_keep [1, 2, 7, 9, 10, 11] [3] [3] rfl rfl rfl rfl ?_
                  first | exact g_has ⟨true, rfl, rfl, rfl, ⟨hT2, hsub2, by rw [leftA_yes (by omega), Bool.or_true]⟩⟩ | exact g_has ⟨lf, rfl, rfl, rfl, ⟨hT2, hsub2, by rw [leftA_no (by omega), Bool.or_false]⟩⟩
            · skip
              obtain ⟨lf2, rfl, rfl, rfl, hT2, hsub2, hlf⟩ := hI
              have hst3 := left_st hst2 host hlf
              refine g_seq (fun K22 hK22 => ?_)
              refine g_region ?_
              refine g_step rfl (s_val (v_move rfl) rfl rfl ?_)
              refine g_step rfl (s_callp rfl rfl rfl (mall_ok p r2 own.id room (doL own.id room l a).1 _ hT2 (by omega) hm2.b) ?_)
              rintro _ rfl
              refine g_step rfl (s_val (v_assign rfl) rfl rfl ?_)
              refine g_nil ?_
              refine g_next hK22 ?_
              refine g_seq (fun K23 hK23 => ?_)
              refine g_seq (fun K24 hK24 => ?_)
              refine g_region ?_
              refine g_step rfl (s_val (v_move rfl) rfl rfl ?_)
              refine g_step rfl (s_val (v_move rfl) rfl rfl ?_)
              refine g_step rfl (s_callp rfl rfl rfl (under_ok l (doL own.id room l a).1 _ _ _ rfl rfl (by omega) (by omega) hm.b hm2.b) ?_)
              rintro _ rfl
              refine g_step rfl (s_val (v_not rfl) rfl rfl ?_)
              refine g_step rfl (s_val (v_move rfl) rfl rfl ?_)
              refine g_split 84 rfl (fun hg84 => ?_) (fun hg84 => ?_)
              · exfalso; (try simp only [decide_eq_true_eq, decide_eq_false_iff_not, Bool.not_eq_true', Bool.not_eq_false', Bool.not_eq_eq_eq_not, Bool.not_true, Bool.not_false, Bool.and_eq_true, Bool.or_eq_true, Bool.or_eq_false_iff, beq_iff_eq, beq_eq_false_iff_ne, ne_eq, Int.not_lt, Int.not_le, Decidable.not_not] at hg84); rw [hu2] at hg84; simp at hg84
              · try simp only [decide_eq_true_eq, decide_eq_false_iff_not, Bool.not_eq_true', Bool.not_eq_false', Bool.not_eq_eq_eq_not, Bool.not_true, Bool.not_false, Bool.and_eq_true, Bool.or_eq_true, Bool.or_eq_false_iff, beq_iff_eq, beq_eq_false_iff_ne, ne_eq, Int.not_lt, Int.not_le, Decidable.not_not] at hg84
                refine g_step_yes (j := 4) (t := 84) rfl rfl rfl rfl (s_val (v_move rfl) rfl rfl ?_)
                refine g_step_yes (j := 4) (t := 84) rfl rfl rfl rfl (s_callp rfl rfl rfl (sorted_ok (doL own.id room l a).1 _ (by omega) hm2.b) ?_)
                rintro _ rfl
                refine g_step_yes (j := 4) (t := 84) rfl rfl rfl rfl (s_val (v_not rfl) rfl rfl ?_)
                refine g_step rfl (s_val (v_pick_f rfl rfl) rfl rfl ?_)
                refine g_step rfl (s_val (v_move rfl) rfl rfl ?_)
                refine g_split 89 rfl (fun hg89 => ?_) (fun hg89 => ?_)
                · exfalso; (try simp only [decide_eq_true_eq, decide_eq_false_iff_not, Bool.not_eq_true', Bool.not_eq_false', Bool.not_eq_eq_eq_not, Bool.not_true, Bool.not_false, Bool.and_eq_true, Bool.or_eq_true, Bool.or_eq_false_iff, beq_iff_eq, beq_eq_false_iff_ne, ne_eq, Int.not_lt, Int.not_le, Decidable.not_not] at hg89); rw [hm2.s] at hg89; simp at hg89
                · try simp only [decide_eq_true_eq, decide_eq_false_iff_not, Bool.not_eq_true', Bool.not_eq_false', Bool.not_eq_eq_eq_not, Bool.not_true, Bool.not_false, Bool.and_eq_true, Bool.or_eq_true, Bool.or_eq_false_iff, beq_iff_eq, beq_eq_false_iff_ne, ne_eq, Int.not_lt, Int.not_le, Decidable.not_not] at hg89
                  refine g_step_yes (j := 9) (t := 89) rfl rfl rfl rfl (s_val (v_move rfl) rfl rfl ?_)
                  refine g_step_yes (j := 9) (t := 89) rfl rfl rfl rfl (s_val (v_len ty22 rfl (by first | rfl | assumption) (by first | exact List.length_map .. | rfl)) rfl rfl ?_)
                  refine g_step_yes (j := 9) (t := 89) rfl rfl rfl rfl (s_val (v_move rfl) rfl rfl ?_)
                  refine g_step_yes (j := 9) (t := 89) rfl rfl rfl rfl (s_val (v_gtr rfl rfl) rfl rfl ?_)
                  refine g_step rfl (s_val (v_pick_f rfl rfl) rfl rfl ?_)
                  refine g_nil ?_
                  refine g_next hK24 ?_
                  refine g_cond rfl (fun hc94 => ?_) (fun hc94 => ?_)
                  · exfalso; (try simp only [decide_eq_true_eq, decide_eq_false_iff_not, Bool.not_eq_true', Bool.not_eq_false', Bool.not_eq_eq_eq_not, Bool.not_true, Bool.not_false, Bool.and_eq_true, Bool.or_eq_true, Bool.or_eq_false_iff, beq_iff_eq, beq_eq_false_iff_ne, ne_eq, Int.not_lt, Int.not_le, Decidable.not_not] at hc94); have h9 := hm2.n; omega
                  · try simp only [decide_eq_true_eq, decide_eq_false_iff_not, Bool.not_eq_true', Bool.not_eq_false', Bool.not_eq_eq_eq_not, Bool.not_true, Bool.not_false, Bool.and_eq_true, Bool.or_eq_true, Bool.or_eq_false_iff, beq_iff_eq, beq_eq_false_iff_ne, ne_eq, Int.not_lt, Int.not_le, Decidable.not_not] at hc94
                    refine g_skip ?_
                    refine g_next hK23 ?_
                    refine g_seq (fun K25 hK25 => ?_)
                    refine g_region ?_
                    refine g_step rfl (s_val (v_move rfl) rfl rfl ?_)
                    refine g_step rfl (s_callp rfl rfl rfl (mself_ok p r2 own.id room (doL own.id room l a).1 _ hT2 (by omega) hm2.b) ?_)
                    rintro _ rfl
                    rw [hro2]
                    refine g_step rfl (s_alloc (av := (.agg [(.int .i64 0), (.int .i64 0), (.int .i64 0), (.int .i64 0), (.int .i64 0), (.bool false), .nil0])) ty46 rfl rfl rfl rfl ?_)
                    refine g_step rfl (s_store_all ty46 rfl rfl rfl rfl rfl rfl ?_)
                    refine g_nil ?_
                    refine g_next hK25 ?_
                    first | refine g_keep [1, 2, 7, 10, 11, 12] [3, 13] [3, 13] (keep_cons rfl (keep_cons rfl (keep_cons rfl (keep_cons rfl (keep_cons rfl (keep_cons rfl keep_nil)))))) (lkeep_cons rfl (lkeep_cons rfl lkeep_nil)) (keep_cons rfl (keep_cons rfl keep_nil)) rfl ?_ | refine g_keep [1, 2, 7, 10, 11, 12] [3, 13] [3, 13] rfl rfl rfl rfl ?_
                    refine g_seq (fun K26 hK26 => ?_)
                    refine g_seq (fun K27 hK27 => ?_)
                    refine g_region ?_
                    refine g_step rfl (s_fieldAddr ty46 fo46_0 ty3 rfl rfl ?_)
                    refine g_step rfl (s_val (v_loadl ty3 rfl rfl rfl rfl) rfl rfl ?_)
                    refine g_step rfl (s_fieldAddr ty46 fo46_0 ty3 rfl rfl ?_)
                    refine g_step rfl (s_val (v_loadl ty3 rfl rfl rfl rfl) rfl rfl ?_)
                    refine g_step rfl (s_val (v_neq rfl rfl) rfl rfl ?_)
                    refine g_step rfl (s_val (v_move rfl) rfl rfl ?_)
                    refine g_split 102 rfl (fun hg102 => ?_) (fun hg102 => ?_)
                    · exfalso; (try simp only [decide_eq_true_eq, decide_eq_false_iff_not, Bool.not_eq_true', Bool.not_eq_false', Bool.not_eq_eq_eq_not, Bool.not_true, Bool.not_false, Bool.and_eq_true, Bool.or_eq_true, Bool.or_eq_false_iff, beq_iff_eq, beq_eq_false_iff_ne, ne_eq, Int.not_lt, Int.not_le, Decidable.not_not] at hg102); have h9 := fnd_id ho2; omega
                    · try simp only [decide_eq_true_eq, decide_eq_false_iff_not, Bool.not_eq_true', Bool.not_eq_false', Bool.not_eq_eq_eq_not, Bool.not_true, Bool.not_false, Bool.and_eq_true, Bool.or_eq_true, Bool.or_eq_false_iff, beq_iff_eq, beq_eq_false_iff_ne, ne_eq, Int.not_lt, Int.not_le, Decidable.not_not] at hg102
                      refine g_step_yes (j := 5) (t := 102) rfl rfl rfl rfl (s_fieldAddr ty46 fo46_3 ty43 rfl rfl ?_)
                      refine g_step_yes (j := 5) (t := 102) rfl rfl rfl rfl (s_fieldAddr ty43 fo43_0 ty3 rfl rfl ?_)
                      refine g_step_yes (j := 5) (t := 102) rfl rfl rfl rfl (s_val (v_loadl ty3 rfl rfl rfl rfl) rfl rfl ?_)
                      refine g_step_yes (j := 5) (t := 102) rfl rfl rfl rfl (s_fieldAddr ty46 fo46_3 ty43 rfl rfl ?_)
                      refine g_step_yes (j := 5) (t := 102) rfl rfl rfl rfl (s_fieldAddr ty43 fo43_0 ty3 rfl rfl ?_)
                      refine g_step_yes (j := 5) (t := 102) rfl rfl rfl rfl (s_val (v_loadl ty3 rfl rfl rfl rfl) rfl rfl ?_)
                      refine g_step_yes (j := 5) (t := 102) rfl rfl rfl rfl (s_val (v_neq rfl rfl) rfl rfl ?_)
                      refine g_step rfl (s_val (v_pick_f rfl rfl) rfl rfl ?_)
                      refine g_step rfl (s_val (v_move rfl) rfl rfl ?_)
                      refine g_split 111 rfl (fun hg111 => ?_) (fun hg111 => ?_)
                      · exfalso; (try simp only [decide_eq_true_eq, decide_eq_false_iff_not, Bool.not_eq_true', Bool.not_eq_false', Bool.not_eq_eq_eq_not, Bool.not_true, Bool.not_false, Bool.and_eq_true, Bool.or_eq_true, Bool.or_eq_false_iff, beq_iff_eq, beq_eq_false_iff_ne, ne_eq, Int.not_lt, Int.not_le, Decidable.not_not] at hg111); simp [hsp3] at hg111
                      · try simp only [decide_eq_true_eq, decide_eq_false_iff_not, Bool.not_eq_true', Bool.not_eq_false', Bool.not_eq_eq_eq_not, Bool.not_true, Bool.not_false, Bool.and_eq_true, Bool.or_eq_true, Bool.or_eq_false_iff, beq_iff_eq, beq_eq_false_iff_ne, ne_eq, Int.not_lt, Int.not_le, Decidable.not_not] at hg111
                        refine g_step_yes (j := 14) (t := 111) rfl rfl rfl rfl (s_fieldAddr ty46 fo46_3 ty43 rfl rfl ?_)
                        refine g_step_yes (j := 14) (t := 111) rfl rfl rfl rfl (s_fieldAddr ty43 fo43_1 ty3 rfl rfl ?_)
                        refine g_step_yes (j := 14) (t := 111) rfl rfl rfl rfl (s_val (v_loadl ty3 rfl rfl rfl rfl) rfl rfl ?_)
                        refine g_step_yes (j := 14) (t := 111) rfl rfl rfl rfl (s_fieldAddr ty46 fo46_3 ty43 rfl rfl ?_)
                        refine g_step_yes (j := 14) (t := 111) rfl rfl rfl rfl (s_fieldAddr ty43 fo43_1 ty3 rfl rfl ?_)
                        refine g_step_yes (j := 14) (t := 111) rfl rfl rfl rfl (s_val (v_loadl ty3 rfl rfl rfl rfl) rfl rfl ?_)
                        refine g_step_yes (j := 14) (t := 111) rfl rfl rfl rfl (s_val (v_neq rfl rfl) rfl rfl ?_)
                        refine g_step rfl (s_val (v_pick_f rfl rfl) rfl rfl ?_)
                        refine g_step rfl (s_val (v_move rfl) rfl rfl ?_)
                        refine g_split 120 rfl (fun hg120 => ?_) (fun hg120 => ?_)
                        · exfalso; (try simp only [decide_eq_true_eq, decide_eq_false_iff_not, Bool.not_eq_true', Bool.not_eq_false', Bool.not_eq_eq_eq_not, Bool.not_true, Bool.not_false, Bool.and_eq_true, Bool.or_eq_true, Bool.or_eq_false_iff, beq_iff_eq, beq_eq_false_iff_ne, ne_eq, Int.not_lt, Int.not_le, Decidable.not_not] at hg120); simp [hsp3] at hg120
                        · try simp only [decide_eq_true_eq, decide_eq_false_iff_not, Bool.not_eq_true', Bool.not_eq_false', Bool.not_eq_eq_eq_not, Bool.not_true, Bool.not_false, Bool.and_eq_true, Bool.or_eq_true, Bool.or_eq_false_iff, beq_iff_eq, beq_eq_false_iff_ne, ne_eq, Int.not_lt, Int.not_le, Decidable.not_not] at hg120
                          refine g_step_yes (j := 23) (t := 120) rfl rfl rfl rfl (s_val (v_move rfl) rfl rfl ?_)
                          refine g_step_yes (j := 23) (t := 120) rfl rfl rfl rfl (s_val (v_move rfl) rfl rfl ?_)
                          refine g_split 122 rfl (fun hg122 => ?_) (fun hg122 => ?_)
                          · try simp only [decide_eq_true_eq, decide_eq_false_iff_not, Bool.not_eq_true', Bool.not_eq_false', Bool.not_eq_eq_eq_not, Bool.not_true, Bool.not_false, Bool.and_eq_true, Bool.or_eq_true, Bool.or_eq_false_iff, beq_iff_eq, beq_eq_false_iff_ne, ne_eq, Int.not_lt, Int.not_le, Decidable.not_not] at hg122
                            refine g_step_yes (j := 25) (t := 122) rfl rfl rfl rfl (s_fieldAddr ty46 fo46_2 ty3 rfl rfl ?_)
                            refine g_step_yes (j := 25) (t := 122) rfl rfl rfl rfl (s_val (v_loadl ty3 rfl rfl rfl rfl) rfl rfl ?_)
                            refine g_step_yes (j := 25) (t := 122) rfl rfl rfl rfl (s_val (v_neq rfl rfl) rfl rfl ?_)
                            refine g_step_yes (j := 23) (t := 120) rfl rfl rfl rfl (s_val (v_pick_t rfl rfl) rfl rfl ?_)
                            refine g_step rfl (s_val (v_pick_f rfl rfl) rfl rfl ?_)
                            refine g_step rfl (s_val (v_move rfl) rfl rfl ?_)
                            refine g_split 128 rfl (fun hg128 => ?_) (fun hg128 => ?_)
                            · exfalso; (try simp only [decide_eq_true_eq, decide_eq_false_iff_not, Bool.not_eq_true', Bool.not_eq_false', Bool.not_eq_eq_eq_not, Bool.not_true, Bool.not_false, Bool.and_eq_true, Bool.or_eq_true, Bool.or_eq_false_iff, beq_iff_eq, beq_eq_false_iff_ne, ne_eq, Int.not_lt, Int.not_le, Decidable.not_not] at hg128); simp_all
                            · try simp only [decide_eq_true_eq, decide_eq_false_iff_not, Bool.not_eq_true', Bool.not_eq_false', Bool.not_eq_eq_eq_not, Bool.not_true, Bool.not_false, Bool.and_eq_true, Bool.or_eq_true, Bool.or_eq_false_iff, beq_iff_eq, beq_eq_false_iff_ne, ne_eq, Int.not_lt, Int.not_le, Decidable.not_not] at hg128
                              refine g_step_yes (j := 31) (t := 128) rfl rfl rfl rfl (s_val (v_move rfl) rfl rfl ?_)
                              refine g_step_yes (j := 31) (t := 128) rfl rfl rfl rfl (s_val (v_not rfl) rfl rfl ?_)
                              refine g_step_yes (j := 31) (t := 128) rfl rfl rfl rfl (s_val (v_move rfl) rfl rfl ?_)
                              refine g_split 131 rfl (fun hg131 => ?_) (fun hg131 => ?_)
                              · try simp only [decide_eq_true_eq, decide_eq_false_iff_not, Bool.not_eq_true', Bool.not_eq_false', Bool.not_eq_eq_eq_not, Bool.not_true, Bool.not_false, Bool.and_eq_true, Bool.or_eq_true, Bool.or_eq_false_iff, beq_iff_eq, beq_eq_false_iff_ne, ne_eq, Int.not_lt, Int.not_le, Decidable.not_not] at hg131
                                refine g_step_yes (j := 34) (t := 131) rfl rfl rfl rfl (s_fieldAddr ty46 fo46_2 ty3 rfl rfl ?_)
                                refine g_step_yes (j := 34) (t := 131) rfl rfl rfl rfl (s_val (v_loadl ty3 rfl rfl rfl rfl) rfl rfl ?_)
                                refine g_step_yes (j := 34) (t := 131) rfl rfl rfl rfl (s_val (v_neq rfl rfl) rfl rfl ?_)
                                refine g_step_yes (j := 31) (t := 128) rfl rfl rfl rfl (s_val (v_pick_t rfl rfl) rfl rfl ?_)
                                refine g_step rfl (s_val (v_pick_f rfl rfl) rfl rfl ?_)
                                refine g_nil ?_
                                refine g_next hK27 ?_
                                first | refine g_keep [1, 2, 7, 10, 11, 12, 136] [3] [3] (keep_cons rfl (keep_cons rfl (keep_cons rfl (keep_cons rfl (keep_cons rfl (keep_cons rfl (keep_cons rfl keep_nil))))))) (lkeep_cons rfl lkeep_nil) (keep_cons rfl keep_nil) rfl ?_ | refine g_keep [1, 2, 7, 10, 11, 12, 136] [3] [3] rfl rfl rfl rfl ?_
                                refine g_cond rfl (fun hc136 => ?_) (fun hc136 => ?_)
                                · exfalso; (try simp only [decide_eq_true_eq, decide_eq_false_iff_not, Bool.not_eq_true', Bool.not_eq_false', Bool.not_eq_eq_eq_not, Bool.not_true, Bool.not_false, Bool.and_eq_true, Bool.or_eq_true, Bool.or_eq_false_iff, beq_iff_eq, beq_eq_false_iff_ne, ne_eq, Int.not_lt, Int.not_le, Decidable.not_not] at hc136); simp_all
                                · try simp only [decide_eq_true_eq, decide_eq_false_iff_not, Bool.not_eq_true', Bool.not_eq_false', Bool.not_eq_eq_eq_not, Bool.not_true, Bool.not_false, Bool.and_eq_true, Bool.or_eq_true, Bool.or_eq_false_iff, beq_iff_eq, beq_eq_false_iff_ne, ne_eq, Int.not_lt, Int.not_le, Decidable.not_not] at hc136
                                  refine g_skip ?_
                                  refine g_next hK26 ?_
                                  refine g_region ?_
                                  refine g_step rfl (s_val (v_move rfl) rfl rfl ?_)
                                  refine g_step rfl (s_val (v_assign rfl) rfl rfl ?_)
                                  refine g_nil ?_
                                  refine g_block_normal ?_
                                  refine g_next hK19 ?_
                                  refine g_region ?_
                                  refine g_step rfl (s_val (v_move rfl) rfl rfl ?_)
                                  refine g_step rfl (s_val (v_add rfl rfl (by omega)) rfl rfl ?_)
                                  refine g_step rfl (s_val (v_assign rfl) rfl rfl ?_)
                                  refine g_nil ?_
                                  first | refine g_keep [1, 2, 7, 9, 10, 11] [3] [3] (keep_cons rfl (keep_cons rfl (keep_cons rfl (keep_cons rfl (keep_cons rfl (keep_cons rfl keep_nil)))))) (lkeep_cons rfl lkeep_nil) (keep_cons rfl keep_nil) rfl ?_ | refine g_keep [1, 2, 7, 9, 10, 11] [3] [3] rfl rfl rfl rfl ?_
                                  exact g_round _ (by omega) ⟨k + 1, _, lf2, r2, by omega, rfl, rfl, rfl, rfl, ⟨hT2, hnr2, hsub2, hm2, o2, ho2, hsp3, hst3⟩⟩
                              · try simp only [decide_eq_true_eq, decide_eq_false_iff_not, Bool.not_eq_true', Bool.not_eq_false', Bool.not_eq_eq_eq_not, Bool.not_true, Bool.not_false, Bool.and_eq_true, Bool.or_eq_true, Bool.or_eq_false_iff, beq_iff_eq, beq_eq_false_iff_ne, ne_eq, Int.not_lt, Int.not_le, Decidable.not_not] at hg131
                                refine g_step_no (j := 34) (t := 131) rfl rfl rfl rfl rfl rfl rfl ?_
                                refine g_step_no (j := 34) (t := 131) rfl rfl rfl rfl rfl rfl rfl ?_
                                refine g_step_no (j := 34) (t := 131) rfl rfl rfl rfl rfl rfl rfl ?_
                                refine g_step_yes (j := 31) (t := 128) rfl rfl rfl rfl (s_val (v_pick_f rfl rfl) rfl rfl ?_)
                                refine g_step rfl (s_val (v_pick_f rfl rfl) rfl rfl ?_)
                                refine g_nil ?_
                                refine g_next hK27 ?_
                                first | refine g_keep [1, 2, 7, 10, 11, 12, 136] [3] [3] (keep_cons rfl (keep_cons rfl (keep_cons rfl (keep_cons rfl (keep_cons rfl (keep_cons rfl (keep_cons rfl keep_nil))))))) (lkeep_cons rfl lkeep_nil) (keep_cons rfl keep_nil) rfl ?_ | refine g_keep [1, 2, 7, 10, 11, 12, 136] [3] [3] rfl rfl rfl rfl ?_
                                refine g_cond rfl (fun h => by cases h) (fun _ => ?_)
                                refine g_skip ?_
                                refine g_next hK26 ?_
                                refine g_region ?_
                                refine g_step rfl (s_val (v_move rfl) rfl rfl ?_)
                                refine g_step rfl (s_val (v_assign rfl) rfl rfl ?_)
                                refine g_nil ?_
                                refine g_block_normal ?_
                                refine g_next hK19 ?_
                                refine g_region ?_
                                refine g_step rfl (s_val (v_move rfl) rfl rfl ?_)
                                refine g_step rfl (s_val (v_add rfl rfl (by omega)) rfl rfl ?_)
                                refine g_step rfl (s_val (v_assign rfl) rfl rfl ?_)
                                refine g_nil ?_
                                first | refine g_keep [1, 2, 7, 9, 10, 11] [3] [3] (keep_cons rfl (keep_cons rfl (keep_cons rfl (keep_cons rfl (keep_cons rfl (keep_cons rfl keep_nil)))))) (lkeep_cons rfl lkeep_nil) (keep_cons rfl keep_nil) rfl ?_ | refine g_keep [1, 2, 7, 9, 10, 11] [3] [3] rfl rfl rfl rfl ?_
                                exact g_round _ (by omega) ⟨k + 1, _, lf2, r2, by omega, rfl, rfl, rfl, rfl, ⟨hT2, hnr2, hsub2, hm2, o2, ho2, hsp3, hst3⟩⟩
                          · try simp only [decide_eq_true_eq, decide_eq_false_iff_not, Bool.not_eq_true', Bool.not_eq_false', Bool.not_eq_eq_eq_not, Bool.not_true, Bool.not_false, Bool.and_eq_true, Bool.or_eq_true, Bool.or_eq_false_iff, beq_iff_eq, beq_eq_false_iff_ne, ne_eq, Int.not_lt, Int.not_le, Decidable.not_not] at hg122
                            refine g_step_no (j := 25) (t := 122) rfl rfl rfl rfl rfl rfl rfl ?_
                            refine g_step_no (j := 25) (t := 122) rfl rfl rfl rfl rfl rfl rfl ?_
                            refine g_step_no (j := 25) (t := 122) rfl rfl rfl rfl rfl rfl rfl ?_
                            refine g_step_yes (j := 23) (t := 120) rfl rfl rfl rfl (s_val (v_pick_f rfl rfl) rfl rfl ?_)
                            refine g_step rfl (s_val (v_pick_f rfl rfl) rfl rfl ?_)
                            refine g_step rfl (s_val (v_move rfl) rfl rfl ?_)
                            refine g_step_yes (j := 31) (t := 128) rfl rfl rfl rfl (s_val (v_move rfl) rfl rfl ?_)
                            refine g_step_yes (j := 31) (t := 128) rfl rfl rfl rfl (s_val (v_not rfl) rfl rfl ?_)
                            refine g_step_yes (j := 31) (t := 128) rfl rfl rfl rfl (s_val (v_move rfl) rfl rfl ?_)
                            refine g_split 131 rfl (fun hg131 => ?_) (fun hg131 => ?_)
                            · try simp only [decide_eq_true_eq, decide_eq_false_iff_not, Bool.not_eq_true', Bool.not_eq_false', Bool.not_eq_eq_eq_not, Bool.not_true, Bool.not_false, Bool.and_eq_true, Bool.or_eq_true, Bool.or_eq_false_iff, beq_iff_eq, beq_eq_false_iff_ne, ne_eq, Int.not_lt, Int.not_le, Decidable.not_not] at hg131
                              refine g_step_yes (j := 34) (t := 131) rfl rfl rfl rfl (s_fieldAddr ty46 fo46_2 ty3 rfl rfl ?_)
                              refine g_step_yes (j := 34) (t := 131) rfl rfl rfl rfl (s_val (v_loadl ty3 rfl rfl rfl rfl) rfl rfl ?_)
                              refine g_step_yes (j := 34) (t := 131) rfl rfl rfl rfl (s_val (v_neq rfl rfl) rfl rfl ?_)
                              refine g_step_yes (j := 31) (t := 128) rfl rfl rfl rfl (s_val (v_pick_t rfl rfl) rfl rfl ?_)
                              refine g_step rfl (s_val (v_pick_f rfl rfl) rfl rfl ?_)
                              refine g_nil ?_
                              refine g_next hK27 ?_
                              first | refine g_keep [1, 2, 7, 10, 11, 12, 136] [3] [3] (keep_cons rfl (keep_cons rfl (keep_cons rfl (keep_cons rfl (keep_cons rfl (keep_cons rfl (keep_cons rfl keep_nil))))))) (lkeep_cons rfl lkeep_nil) (keep_cons rfl keep_nil) rfl ?_ | refine g_keep [1, 2, 7, 10, 11, 12, 136] [3] [3] rfl rfl rfl rfl ?_
                              refine g_cond rfl (fun hc136 => ?_) (fun hc136 => ?_)
                              · exfalso; (try simp only [decide_eq_true_eq, decide_eq_false_iff_not, Bool.not_eq_true', Bool.not_eq_false', Bool.not_eq_eq_eq_not, Bool.not_true, Bool.not_false, Bool.and_eq_true, Bool.or_eq_true, Bool.or_eq_false_iff, beq_iff_eq, beq_eq_false_iff_ne, ne_eq, Int.not_lt, Int.not_le, Decidable.not_not] at hc136); simp_all
                              · try simp only [decide_eq_true_eq, decide_eq_false_iff_not, Bool.not_eq_true', Bool.not_eq_false', Bool.not_eq_eq_eq_not, Bool.not_true, Bool.not_false, Bool.and_eq_true, Bool.or_eq_true, Bool.or_eq_false_iff, beq_iff_eq, beq_eq_false_iff_ne, ne_eq, Int.not_lt, Int.not_le, Decidable.not_not] at hc136
                                refine g_skip ?_
                                refine g_next hK26 ?_
                                refine g_region ?_
                                refine g_step rfl (s_val (v_move rfl) rfl rfl ?_)
                                refine g_step rfl (s_val (v_assign rfl) rfl rfl ?_)
                                refine g_nil ?_
                                refine g_block_normal ?_
                                refine g_next hK19 ?_
                                refine g_region ?_
                                refine g_step rfl (s_val (v_move rfl) rfl rfl ?_)
                                refine g_step rfl (s_val (v_add rfl rfl (by omega)) rfl rfl ?_)
                                refine g_step rfl (s_val (v_assign rfl) rfl rfl ?_)
                                refine g_nil ?_
                                first | refine g_keep [1, 2, 7, 9, 10, 11] [3] [3] (keep_cons rfl (keep_cons rfl (keep_cons rfl (keep_cons rfl (keep_cons rfl (keep_cons rfl keep_nil)))))) (lkeep_cons rfl lkeep_nil) (keep_cons rfl keep_nil) rfl ?_ | refine g_keep [1, 2, 7, 9, 10, 11] [3] [3] rfl rfl rfl rfl ?_
                                exact g_round _ (by omega) ⟨k + 1, _, lf2, r2, by omega, rfl, rfl, rfl, rfl, ⟨hT2, hnr2, hsub2, hm2, o2, ho2, hsp3, hst3⟩⟩
                            · try simp only [decide_eq_true_eq, decide_eq_false_iff_not, Bool.not_eq_true', Bool.not_eq_false', Bool.not_eq_eq_eq_not, Bool.not_true, Bool.not_false, Bool.and_eq_true, Bool.or_eq_true, Bool.or_eq_false_iff, beq_iff_eq, beq_eq_false_iff_ne, ne_eq, Int.not_lt, Int.not_le, Decidable.not_not] at hg131
                              refine g_step_no (j := 34) (t := 131) rfl rfl rfl rfl rfl rfl rfl ?_
                              refine g_step_no (j := 34) (t := 131) rfl rfl rfl rfl rfl rfl rfl ?_
                              refine g_step_no (j := 34) (t := 131) rfl rfl rfl rfl rfl rfl rfl ?_
                              refine g_step_yes (j := 31) (t := 128) rfl rfl rfl rfl (s_val (v_pick_f rfl rfl) rfl rfl ?_)
                              refine g_step rfl (s_val (v_pick_f rfl rfl) rfl rfl ?_)
                              refine g_nil ?_
                              refine g_next hK27 ?_
                              first | refine g_keep [1, 2, 7, 10, 11, 12, 136] [3] [3] (keep_cons rfl (keep_cons rfl (keep_cons rfl (keep_cons rfl (keep_cons rfl (keep_cons rfl (keep_cons rfl keep_nil))))))) (lkeep_cons rfl lkeep_nil) (keep_cons rfl keep_nil) rfl ?_ | refine g_keep [1, 2, 7, 10, 11, 12, 136] [3] [3] rfl rfl rfl rfl ?_
                              refine g_cond rfl (fun h => by cases h) (fun _ => ?_)
                              refine g_skip ?_
                              refine g_next hK26 ?_
                              refine g_region ?_
                              refine g_step rfl (s_val (v_move rfl) rfl rfl ?_)
                              refine g_step rfl (s_val (v_assign rfl) rfl rfl ?_)
                              refine g_nil ?_
                              refine g_block_normal ?_
                              refine g_next hK19 ?_
                              refine g_region ?_
                              refine g_step rfl (s_val (v_move rfl) rfl rfl ?_)
                              refine g_step rfl (s_val (v_add rfl rfl (by omega)) rfl rfl ?_)
                              refine g_step rfl (s_val (v_assign rfl) rfl rfl ?_)
                              refine g_nil ?_
                              first | refine g_keep [1, 2, 7, 9, 10, 11] [3] [3] (keep_cons rfl (keep_cons rfl (keep_cons rfl (keep_cons rfl (keep_cons rfl (keep_cons rfl keep_nil)))))) (lkeep_cons rfl lkeep_nil) (keep_cons rfl keep_nil) rfl ?_ | refine g_keep [1, 2, 7, 9, 10, 11] [3] [3] rfl rfl rfl rfl ?_
                              exact g_round _ (by omega) ⟨k + 1, _, lf2, r2, by omega, rfl, rfl, rfl, rfl, ⟨hT2, hnr2, hsub2, hm2, o2, ho2, hsp3, hst3⟩⟩
          · try simp only [decide_eq_true_eq, decide_eq_false_iff_not, Bool.not_eq_true', Bool.not_eq_false', Bool.not_eq_eq_eq_not, Bool.not_true, Bool.not_false, Bool.and_eq_true, Bool.or_eq_true, Bool.or_eq_false_iff, beq_iff_eq, beq_eq_false_iff_ne, ne_eq, Int.not_lt, Int.not_le, Decidable.not_not] at hc55
            obtain rfl : k = acts.length := by omega
            refine g_exit ?_
            refine g_then_exit ?_
            refine g_then_exit ?_
            refine g_block_same ?_
            refine g_next hK15 ?_
            refine g_seq (fun K28 hK28 => ?_)
            refine g_region ?_
            refine g_step rfl (s_callp rfl rfl rfl (awake25_ok _) ?_)
            rintro _ rfl
            refine g_step rfl (s_val (v_assign rfl) rfl rfl ?_)
            refine g_nil ?_
            refine g_next hK28 ?_
            refine g_ret ?_
            refine g_end1 (.inl rfl) Try.results8 (.tmp rfl) [] (ASub.refl _) (by first | exact AHeap.sub_refl _ | exact hsub) (fun p hp => by cases hp) ⟨rfl, ?_⟩
            rfl

end Go.Proofs.Ytgipbhfblmblcaa

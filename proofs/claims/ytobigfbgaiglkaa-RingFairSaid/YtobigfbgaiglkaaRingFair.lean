import Derived.Test.YtobigfbgaiglkaaRingTurn
import Derived.Test.YtobigfbgaiglkaaPRing5
set_option maxHeartbeats 8000000
set_option linter.unusedSimpArgs false
set_option linter.unusedVariables false
set_option maxRecDepth 100000
namespace Go.Proofs.Ytobigfbgaiglkaa
open Go Go.Proofs.Ytobigfbgaiglkaa.AM
theorem ringFair_ok (ahead : List (List Int)) (first : Int) (come at' draws : List Int) (hl : ahead.length ≤ 140737488351232) (hl2 : come.length ≤ 140737488351232) (hl3 : at'.length ≤ 140737488351232) (hl4 : draws.length ≤ 140737488351232) (G : AHeap) : PCalls Try.prog 5 [.imm (ahead.map encI), .int .i64 first, .imm (come.map (.int .i64)), .imm (at'.map (.int .i64)), .imm (draws.map (.int .i64))] G (fun v => v = .bool true) := by
 refine LCalls.intro 121 fi5 rfl Try.ntmps5 rfl (fun _ h => h.elim) (fun H hH w0 hw0 => ?_)
 refine g_seq (fun K0 hK0 => ?_)
 refine g_region ?_
 refine g_step rfl (s_val (v_assign rfl) rfl rfl ?_)
 refine g_nil ?_
 refine g_next hK0 ?_
 refine g_seq (fun K1 hK1 => ?_)
 refine g_seq (fun K2 hK2 => ?_)
 refine g_region ?_
 refine g_step rfl (s_val (v_move rfl) rfl rfl ?_)
 refine g_step rfl (s_val (v_len ty43 rfl (by first | rfl | assumption) (by first | exact List.length_map .. | rfl)) rfl rfl ?_)
 refine g_step rfl (s_val (v_gtr rfl rfl) rfl rfl ?_)
 refine g_step rfl (s_val (v_move rfl) rfl rfl ?_)
 refine g_split 24 rfl (fun hg24 => ?_) (fun hg24 => ?_)
 ·
  try simp only [decide_eq_true_eq, decide_eq_false_iff_not, Bool.not_eq_true', Bool.not_eq_false', Bool.not_eq_eq_eq_not, Bool.not_true, Bool.not_false, Bool.and_eq_true, Bool.or_eq_true, Bool.or_eq_false_iff, beq_iff_eq, beq_eq_false_iff_ne, ne_eq, Int.not_lt, Int.not_le, Decidable.not_not] at hg24
  refine g_step_no (j := 3) (t := 24) rfl rfl rfl rfl rfl rfl rfl ?_
  refine g_step_no (j := 3) (t := 24) rfl rfl rfl rfl rfl rfl rfl ?_
  refine g_step_no (j := 3) (t := 24) rfl rfl rfl rfl rfl rfl rfl ?_
  refine g_step rfl (s_val (v_pick_t rfl rfl) rfl rfl ?_)
  refine g_step rfl (s_val (v_move rfl) rfl rfl ?_)
  refine g_step_no (j := 8) (t := 29) rfl rfl rfl rfl rfl rfl rfl ?_
  refine g_step_no (j := 8) (t := 29) rfl rfl rfl rfl rfl rfl rfl ?_
  refine g_step_no (j := 8) (t := 29) rfl rfl rfl rfl rfl rfl rfl ?_
  refine g_step_no (j := 8) (t := 29) rfl rfl rfl rfl rfl rfl rfl ?_
  refine g_step_no (j := 8) (t := 29) rfl rfl rfl rfl rfl rfl rfl ?_
  refine g_step rfl (s_val (v_pick_t rfl rfl) rfl rfl ?_)
  refine g_step rfl (s_val (v_move rfl) rfl rfl ?_)
  refine g_step_no (j := 15) (t := 36) rfl rfl rfl rfl rfl rfl rfl ?_
  refine g_step_no (j := 15) (t := 36) rfl rfl rfl rfl rfl rfl rfl ?_
  refine g_step_no (j := 15) (t := 36) rfl rfl rfl rfl rfl rfl rfl ?_
  refine g_step rfl (s_val (v_pick_t rfl rfl) rfl rfl ?_)
  refine g_nil ?_
  refine g_next hK2 ?_
  first | refine g_keep [0, 1, 2, 3, 4, 40] [] [] (keep_cons rfl (keep_cons rfl (keep_cons rfl (keep_cons rfl (keep_cons rfl (keep_cons rfl keep_nil)))))) lkeep_nil keep_nil rfl ?_ | refine g_keep [0, 1, 2, 3, 4, 40] [] [] rfl rfl rfl rfl ?_
  refine g_cond rfl (fun _ => ?_) (fun h => by cases h)
  refine g_seq (fun K3 hK3 => ?_)
  refine g_region ?_
  refine g_step rfl (s_callp rfl rfl rfl (awake20_ok _) ?_)
  rintro _ rfl
  refine g_step rfl (s_val (v_assign rfl) rfl rfl ?_)
  refine g_nil ?_
  refine g_next hK3 ?_
  refine g_ret ?_
  refine g_then_ret ?_
  refine g_end1 (.inl rfl) Try.results5 (.tmp rfl) [] (ASub.refl _) (by first | exact hs_H | exact AHeap.sub_refl _) (fun p hp => by cases hp) ⟨rfl, ?_⟩
  rfl
 ·
  try simp only [decide_eq_true_eq, decide_eq_false_iff_not, Bool.not_eq_true', Bool.not_eq_false', Bool.not_eq_eq_eq_not, Bool.not_true, Bool.not_false, Bool.and_eq_true, Bool.or_eq_true, Bool.or_eq_false_iff, beq_iff_eq, beq_eq_false_iff_ne, ne_eq, Int.not_lt, Int.not_le, Decidable.not_not] at hg24
  refine g_step_yes (j := 3) (t := 24) rfl rfl rfl rfl (s_val (v_move rfl) rfl rfl ?_)
  refine g_step_yes (j := 3) (t := 24) rfl rfl rfl rfl (s_val (v_len ty41 rfl (by first | rfl | assumption) (by first | exact List.length_map .. | rfl)) rfl rfl ?_)
  refine g_step_yes (j := 3) (t := 24) rfl rfl rfl rfl (s_val (v_gtr rfl rfl) rfl rfl ?_)
  refine g_step rfl (s_val (v_pick_f rfl rfl) rfl rfl ?_)
  refine g_step rfl (s_val (v_move rfl) rfl rfl ?_)
  refine g_split 29 rfl (fun hg29 => ?_) (fun hg29 => ?_)
  ·
   try simp only [decide_eq_true_eq, decide_eq_false_iff_not, Bool.not_eq_true', Bool.not_eq_false', Bool.not_eq_eq_eq_not, Bool.not_true, Bool.not_false, Bool.and_eq_true, Bool.or_eq_true, Bool.or_eq_false_iff, beq_iff_eq, beq_eq_false_iff_ne, ne_eq, Int.not_lt, Int.not_le, Decidable.not_not] at hg29
   refine g_step_no (j := 8) (t := 29) rfl rfl rfl rfl rfl rfl rfl ?_
   refine g_step_no (j := 8) (t := 29) rfl rfl rfl rfl rfl rfl rfl ?_
   refine g_step_no (j := 8) (t := 29) rfl rfl rfl rfl rfl rfl rfl ?_
   refine g_step_no (j := 8) (t := 29) rfl rfl rfl rfl rfl rfl rfl ?_
   refine g_step_no (j := 8) (t := 29) rfl rfl rfl rfl rfl rfl rfl ?_
   refine g_step rfl (s_val (v_pick_t rfl rfl) rfl rfl ?_)
   refine g_step rfl (s_val (v_move rfl) rfl rfl ?_)
   refine g_step_no (j := 15) (t := 36) rfl rfl rfl rfl rfl rfl rfl ?_
   refine g_step_no (j := 15) (t := 36) rfl rfl rfl rfl rfl rfl rfl ?_
   refine g_step_no (j := 15) (t := 36) rfl rfl rfl rfl rfl rfl rfl ?_
   refine g_step rfl (s_val (v_pick_t rfl rfl) rfl rfl ?_)
   refine g_nil ?_
   refine g_next hK2 ?_
   first | refine g_keep [0, 1, 2, 3, 4, 40] [] [] (keep_cons rfl (keep_cons rfl (keep_cons rfl (keep_cons rfl (keep_cons rfl (keep_cons rfl keep_nil)))))) lkeep_nil keep_nil rfl ?_ | refine g_keep [0, 1, 2, 3, 4, 40] [] [] rfl rfl rfl rfl ?_
   refine g_cond rfl (fun _ => ?_) (fun h => by cases h)
   refine g_seq (fun K4 hK4 => ?_)
   refine g_region ?_
   refine g_step rfl (s_callp rfl rfl rfl (awake20_ok _) ?_)
   rintro _ rfl
   refine g_step rfl (s_val (v_assign rfl) rfl rfl ?_)
   refine g_nil ?_
   refine g_next hK4 ?_
   refine g_ret ?_
   refine g_then_ret ?_
   refine g_end1 (.inl rfl) Try.results5 (.tmp rfl) [] (ASub.refl _) (by first | exact hs_H | exact AHeap.sub_refl _) (fun p hp => by cases hp) ⟨rfl, ?_⟩
   rfl
  ·
   try simp only [decide_eq_true_eq, decide_eq_false_iff_not, Bool.not_eq_true', Bool.not_eq_false', Bool.not_eq_eq_eq_not, Bool.not_true, Bool.not_false, Bool.and_eq_true, Bool.or_eq_true, Bool.or_eq_false_iff, beq_iff_eq, beq_eq_false_iff_ne, ne_eq, Int.not_lt, Int.not_le, Decidable.not_not] at hg29
   refine g_step_yes (j := 8) (t := 29) rfl rfl rfl rfl (s_val (v_move rfl) rfl rfl ?_)
   refine g_step_yes (j := 8) (t := 29) rfl rfl rfl rfl (s_val (v_len ty41 rfl (by first | rfl | assumption) (by first | exact List.length_map .. | rfl)) rfl rfl ?_)
   refine g_step_yes (j := 8) (t := 29) rfl rfl rfl rfl (s_val (v_move rfl) rfl rfl ?_)
   refine g_step_yes (j := 8) (t := 29) rfl rfl rfl rfl (s_val (v_len ty41 rfl (by first | rfl | assumption) (by first | exact List.length_map .. | rfl)) rfl rfl ?_)
   refine g_step_yes (j := 8) (t := 29) rfl rfl rfl rfl (s_val (v_gtr rfl rfl) rfl rfl ?_)
   refine g_step rfl (s_val (v_pick_f rfl rfl) rfl rfl ?_)
   refine g_step rfl (s_val (v_move rfl) rfl rfl ?_)
   refine g_split 36 rfl (fun hg36 => ?_) (fun hg36 => ?_)
   ·
    try simp only [decide_eq_true_eq, decide_eq_false_iff_not, Bool.not_eq_true', Bool.not_eq_false', Bool.not_eq_eq_eq_not, Bool.not_true, Bool.not_false, Bool.and_eq_true, Bool.or_eq_true, Bool.or_eq_false_iff, beq_iff_eq, beq_eq_false_iff_ne, ne_eq, Int.not_lt, Int.not_le, Decidable.not_not] at hg36
    refine g_step_no (j := 15) (t := 36) rfl rfl rfl rfl rfl rfl rfl ?_
    refine g_step_no (j := 15) (t := 36) rfl rfl rfl rfl rfl rfl rfl ?_
    refine g_step_no (j := 15) (t := 36) rfl rfl rfl rfl rfl rfl rfl ?_
    refine g_step rfl (s_val (v_pick_t rfl rfl) rfl rfl ?_)
    refine g_nil ?_
    refine g_next hK2 ?_
    first | refine g_keep [0, 1, 2, 3, 4, 40] [] [] (keep_cons rfl (keep_cons rfl (keep_cons rfl (keep_cons rfl (keep_cons rfl (keep_cons rfl keep_nil)))))) lkeep_nil keep_nil rfl ?_ | refine g_keep [0, 1, 2, 3, 4, 40] [] [] rfl rfl rfl rfl ?_
    refine g_cond rfl (fun _ => ?_) (fun h => by cases h)
    refine g_seq (fun K5 hK5 => ?_)
    refine g_region ?_
    refine g_step rfl (s_callp rfl rfl rfl (awake20_ok _) ?_)
    rintro _ rfl
    refine g_step rfl (s_val (v_assign rfl) rfl rfl ?_)
    refine g_nil ?_
    refine g_next hK5 ?_
    refine g_ret ?_
    refine g_then_ret ?_
    refine g_end1 (.inl rfl) Try.results5 (.tmp rfl) [] (ASub.refl _) (by first | exact hs_H | exact AHeap.sub_refl _) (fun p hp => by cases hp) ⟨rfl, ?_⟩
    rfl
   ·
    try simp only [decide_eq_true_eq, decide_eq_false_iff_not, Bool.not_eq_true', Bool.not_eq_false', Bool.not_eq_eq_eq_not, Bool.not_true, Bool.not_false, Bool.and_eq_true, Bool.or_eq_true, Bool.or_eq_false_iff, beq_iff_eq, beq_eq_false_iff_ne, ne_eq, Int.not_lt, Int.not_le, Decidable.not_not] at hg36
    refine g_step_yes (j := 15) (t := 36) rfl rfl rfl rfl (s_val (v_move rfl) rfl rfl ?_)
    refine g_step_yes (j := 15) (t := 36) rfl rfl rfl rfl (s_val (v_len ty41 rfl (by first | rfl | assumption) (by first | exact List.length_map .. | rfl)) rfl rfl ?_)
    refine g_step_yes (j := 15) (t := 36) rfl rfl rfl rfl (s_val (v_gtr rfl rfl) rfl rfl ?_)
    refine g_step rfl (s_val (v_pick_f rfl rfl) rfl rfl ?_)
    refine g_nil ?_
    refine g_next hK2 ?_
    first | refine g_keep [0, 1, 2, 3, 4, 40] [] [] (keep_cons rfl (keep_cons rfl (keep_cons rfl (keep_cons rfl (keep_cons rfl (keep_cons rfl keep_nil)))))) lkeep_nil keep_nil rfl ?_ | refine g_keep [0, 1, 2, 3, 4, 40] [] [] rfl rfl rfl rfl ?_
    refine g_cond rfl (fun hc40 => ?_) (fun hc40 => ?_)
    ·
     try simp only [decide_eq_true_eq, decide_eq_false_iff_not, Bool.not_eq_true', Bool.not_eq_false', Bool.not_eq_eq_eq_not, Bool.not_true, Bool.not_false, Bool.and_eq_true, Bool.or_eq_true, Bool.or_eq_false_iff, beq_iff_eq, beq_eq_false_iff_ne, ne_eq, Int.not_lt, Int.not_le, Decidable.not_not] at hc40
     refine g_seq (fun K6 hK6 => ?_)
     refine g_region ?_
     refine g_step rfl (s_callp rfl rfl rfl (awake20_ok _) ?_)
     rintro _ rfl
     refine g_step rfl (s_val (v_assign rfl) rfl rfl ?_)
     refine g_nil ?_
     refine g_next hK6 ?_
     refine g_ret ?_
     refine g_then_ret ?_
     refine g_end1 (.inl rfl) Try.results5 (.tmp rfl) [] (ASub.refl _) (by first | exact hs_H | exact AHeap.sub_refl _) (fun p hp => by cases hp) ⟨rfl, ?_⟩
     rfl
    ·
     try simp only [decide_eq_true_eq, decide_eq_false_iff_not, Bool.not_eq_true', Bool.not_eq_false', Bool.not_eq_eq_eq_not, Bool.not_true, Bool.not_false, Bool.and_eq_true, Bool.or_eq_true, Bool.or_eq_false_iff, beq_iff_eq, beq_eq_false_iff_ne, ne_eq, Int.not_lt, Int.not_le, Decidable.not_not] at hc40
     refine g_skip ?_
     refine g_next hK1 ?_
     refine g_seq (fun K7 hK7 => ?_)
     refine g_region ?_
     refine g_step rfl (s_call rfl rfl rfl (ringNew_ok _) (fun _ h => h.elim) ?_)
     rintro n1 _ effs1 hn1 hdom1 ⟨p, hp1, rfl, rfl⟩ hok1
     have hw_p : w0.heap.size ≤ p := Nat.le_trans hn1 hp1
     refine g_step rfl (s_val (v_assign rfl) rfl rfl ?_)
     refine g_nil ?_
     refine g_next hK7 ?_
     refine g_seq (fun K8 hK8 => ?_)
     refine g_region ?_
     refine g_step rfl (s_val (v_move rfl) rfl rfl ?_)
     refine g_step rfl (s_call rfl rfl rfl (new_ok draws _ _ rfl (by omega)) (fun _ h => h.elim) ?_)
     rintro n2 _ effs2 hn2 hdom2 ⟨q, hq1, rfl, rfl⟩ hok2
     have hw_q : w0.heap.size ≤ q := Nat.le_trans hn2 hq1
     obtain ⟨h0, hS, hR, hs_H⟩ := ring_start draws hw_p hw_q (box_ne hdom2 hq1) hw0
     refine g_step rfl (s_val (v_assign rfl) rfl rfl ?_)
     refine g_nil ?_
     refine g_next hK8 ?_
     refine g_seq (fun K9 hK9 => ?_)
     refine g_seq (fun K10 hK10 => ?_)
     refine g_region ?_
     refine g_step rfl (s_val (v_assign rfl) rfl rfl ?_)
     refine g_nil ?_
     refine g_next hK10 ?_
     refine g_block ?_
     first | refine g_keep [0, 1, 2, 3, 11, 12, 13] [] [] (keep_cons rfl (keep_cons rfl (keep_cons rfl (keep_cons rfl (keep_cons rfl (keep_cons rfl (keep_cons rfl keep_nil))))))) lkeep_nil keep_nil rfl ?_ | refine g_keep [0, 1, 2, 3, 11, 12, 13] [] [] rfl rfl rfl rfl ?_
     refine g_loop (fun n env L B G => ∃ (k : Nat) (s : Rg) (h1 : AHeap), k ≤ ahead.length ∧ n = ahead.length - k ∧ env = [(0, .imm (ahead.map encI)), (1, .int .i64 first), (2, .imm (come.map (.int .i64))), (3, .imm (at'.map (.int .i64))), (11, .box p 0), (12, .box q 0), (13, .int .i64 (k : Int))] ∧ L = [] ∧ B = [] ∧ Sep w0.heap.size G [h1, noH, noH] ∧ RIs h1 p q s ∧ H.sub G ∧ s.left.length + s.done.length ≤ 12 * k ∧ Nd s) (ahead.length) ⟨0, ⟨[], [], draws⟩, h0, Nat.zero_le _, rfl, rfl, rfl, rfl, ⟨hS, hR, hs_H, by simp, List.nodup_nil⟩⟩ (fun n env L B G hI => ?_)
     obtain ⟨k, s, h1, hk, rfl, rfl, rfl, rfl, hS, hR, hs_H, hsz, hnd⟩ := hI
     refine g_seq (fun K11 hK11 => ?_)
     refine g_seq (fun K12 hK12 => ?_)
     refine g_region ?_
     refine g_step rfl (s_val (v_move rfl) rfl rfl ?_)
     refine g_step rfl (s_val (v_move rfl) rfl rfl ?_)
     refine g_step rfl (s_val (v_len ty43 rfl (by first | rfl | assumption) (by first | exact List.length_map .. | rfl)) rfl rfl ?_)
     refine g_step rfl (s_val (v_lss rfl rfl) rfl rfl ?_)
     refine g_nil ?_
     refine g_next hK12 ?_
     refine g_cond rfl (fun hc48 => ?_) (fun hc48 => ?_)
     ·
      try simp only [decide_eq_true_eq, decide_eq_false_iff_not, Bool.not_eq_true', Bool.not_eq_false', Bool.not_eq_eq_eq_not, Bool.not_true, Bool.not_false, Bool.and_eq_true, Bool.or_eq_true, Bool.or_eq_false_iff, beq_iff_eq, beq_eq_false_iff_ne, ne_eq, Int.not_lt, Int.not_le, Decidable.not_not] at hc48
      obtain ⟨x, hx⟩ := get_some (l := ahead) (k := k) (by omega)
      refine g_skip ?_
      refine g_next hK11 ?_
      refine g_seq (fun K13 hK13 => ?_)
      refine g_block ?_
      refine g_seq (fun K14 hK14 => ?_)
      refine g_seq (fun K15 hK15 => ?_)
      refine g_region ?_
      refine g_step rfl (s_val (v_move rfl) rfl rfl ?_)
      refine g_step rfl (s_val (v_move rfl) rfl rfl ?_)
      refine g_step rfl (s_val (v_indexAddr ty43 ty41 rfl rfl (by first | rfl | assumption) (by first | rfl | exact (rfl : (0 : Int) = ((0 : Nat) : Int)) | exact (Int.toNat_of_nonneg (by omega)).symm) (by first | assumption | exact map_get (by assumption) | rfl) rfl) rfl rfl ?_)
      refine g_step rfl (s_val (by first | exact v_load ty41 rfl rfl (by first | rfl | assumption) (by first | assumption | exact map_get (by assumption) | rfl) rfl | exact v_load_box ty41 rfl rfl (by assumption) rfl) rfl rfl ?_)
      refine g_step rfl (s_val (v_len ty41 rfl (by first | rfl | assumption) (by first | exact List.length_map .. | rfl)) rfl rfl ?_)
      refine g_step rfl (s_val (v_gtr rfl rfl) rfl rfl ?_)
      refine g_nil ?_
      refine g_next hK15 ?_
      refine g_cond rfl (fun hc56 => ?_) (fun hc56 => ?_)
      ·
       try simp only [decide_eq_true_eq, decide_eq_false_iff_not, Bool.not_eq_true', Bool.not_eq_false', Bool.not_eq_eq_eq_not, Bool.not_true, Bool.not_false, Bool.and_eq_true, Bool.or_eq_true, Bool.or_eq_false_iff, beq_iff_eq, beq_eq_false_iff_ne, ne_eq, Int.not_lt, Int.not_le, Decidable.not_not] at hc56
       refine g_seq (fun K16 hK16 => ?_)
       refine g_region ?_
       refine g_step rfl (s_callp rfl rfl rfl (awake20_ok _) ?_)
       rintro _ rfl
       refine g_step rfl (s_val (v_assign rfl) rfl rfl ?_)
       refine g_nil ?_
       refine g_next hK16 ?_
       refine g_ret ?_
       refine g_then_ret ?_
       refine g_block_ret ?_
       refine g_then_ret ?_
       refine g_then_ret ?_
       refine g_block_ret ?_
       refine g_then_ret ?_
       refine g_end1 (.inl rfl) Try.results5 (.tmp rfl) [] (ASub.refl _) (by first | exact hs_H | exact AHeap.sub_refl _) (fun p hp => by cases hp) ⟨rfl, ?_⟩
       rfl
      ·
       try simp only [decide_eq_true_eq, decide_eq_false_iff_not, Bool.not_eq_true', Bool.not_eq_false', Bool.not_eq_eq_eq_not, Bool.not_true, Bool.not_false, Bool.and_eq_true, Bool.or_eq_true, Bool.or_eq_false_iff, beq_iff_eq, beq_eq_false_iff_ne, ne_eq, Int.not_lt, Int.not_le, Decidable.not_not] at hc56
       refine g_skip ?_
       refine g_next hK14 ?_
       refine g_region ?_
       refine g_step rfl (s_val (v_move rfl) rfl rfl ?_)
       refine g_step rfl (s_val (v_move rfl) rfl rfl ?_)
       refine g_step rfl (s_val (v_move rfl) rfl rfl ?_)
       refine g_step rfl (s_val (v_indexAddr ty43 ty41 rfl rfl (by first | rfl | assumption) (by first | rfl | exact (rfl : (0 : Int) = ((0 : Nat) : Int)) | exact (Int.toNat_of_nonneg (by omega)).symm) (by first | assumption | exact map_get (by assumption) | rfl) rfl) rfl rfl ?_)
       refine g_step rfl (s_val (by first | exact v_load ty41 rfl rfl (by first | rfl | assumption) (by first | assumption | exact map_get (by assumption) | rfl) rfl | exact v_load_box ty41 rfl rfl (by assumption) rfl) rfl rfl ?_)
       refine g_step rfl (s_val (v_move rfl) rfl rfl ?_)
       refine g_step rfl (s_call rfl rfl rfl (rNext_ok h1 p q s x (encI x) _ hR (hS.1 h1 (by simp)).1 rfl (by omega) (by omega) (by omega)) (fun b hb => .inr ((hS.1 h1 (by simp)).2 b hb)) ?_)
       rintro n4 v4 effs4 hn4 hdom4 ⟨rfl, h2, hE, hR2⟩ hok4
       have hS2 := hS.turn (l1 := []) hE hn4 hdom4
       have hs2 := hE.frame hdom4 hs_H (fun b hb => hw0 b ((hS.1 h1 (by simp)).2 b hb))
       refine g_nil ?_
       refine g_block_normal ?_
       refine g_next hK13 ?_
       refine g_region ?_
       refine g_step rfl (s_val (v_move rfl) rfl rfl ?_)
       refine g_step rfl (s_val (v_add rfl rfl (by omega)) rfl rfl ?_)
       refine g_step rfl (s_val (v_assign rfl) rfl rfl ?_)
       refine g_nil ?_
       first | refine g_keep [0, 1, 2, 3, 11, 12, 13] [] [] (keep_cons rfl (keep_cons rfl (keep_cons rfl (keep_cons rfl (keep_cons rfl (keep_cons rfl (keep_cons rfl keep_nil))))))) lkeep_nil keep_nil rfl ?_ | refine g_keep [0, 1, 2, 3, 11, 12, 13] [] [] rfl rfl rfl rfl ?_
       exact g_round _ (by omega) ⟨k + 1, (rNext s x).1, h2, by omega, rfl, rfl, rfl, rfl, ⟨hS2, hR2, hs2, by have h9 := rSize s x; omega, next_nd hnd⟩⟩
     ·
      try simp only [decide_eq_true_eq, decide_eq_false_iff_not, Bool.not_eq_true', Bool.not_eq_false', Bool.not_eq_eq_eq_not, Bool.not_true, Bool.not_false, Bool.and_eq_true, Bool.or_eq_true, Bool.or_eq_false_iff, beq_iff_eq, beq_eq_false_iff_ne, ne_eq, Int.not_lt, Int.not_le, Decidable.not_not] at hc48
      obtain rfl : k = ahead.length := by omega
      refine g_exit ?_
      refine g_then_exit ?_
      refine g_then_exit ?_
      refine g_block_same ?_
      refine g_next hK9 ?_
      refine g_seq (fun K17 hK17 => ?_)
      refine g_region ?_
      refine g_step rfl (s_val (v_move rfl) rfl rfl ?_)
      refine g_step rfl (s_litO (l := [.int .i64 first]) ty41 ty3 rfl rfl rfl rfl rfl rfl rfl (fun qq hqq1 hqq2 => ?_))
      refine g_step rfl (s_val (v_move rfl) rfl rfl ?_)
      refine g_step rfl (s_append (l := ([first].map (.int .i64))) (m := (come.map (.int .i64))) ty41 ty3 rfl rfl (.inr ⟨qq, hqq1, hqq2, rfl, rfl⟩) rfl rfl (by refine Even.map _ ?_ _; intro _; rfl) (by intro x hx; obtain ⟨_, _, rfl⟩ := List.mem_map.1 hx; rfl) rfl (by simp; omega) (by simp; omega) ?_)
      intro av68 G68 h68
      rw [← List.map_append] at h68
      refine g_freeze 68 rfl h68 ?_
      refine g_step rfl (s_callp rfl rfl rfl (rising_ok (first :: come) _ _ rfl (by simp; omega)) ?_)
      rintro _ rfl
      refine g_step rfl (s_val (v_assign rfl) rfl rfl ?_)
      refine g_nil ?_
      refine g_next hK17 ?_
      refine g_seq (fun K18 hK18 => ?_)
      refine g_region ?_
      have hall0 := setOf_len (first :: come)
      rw [List.length_cons] at hall0
      have hall1 : 1 ≤ (setOf (first :: come)).length := List.length_pos_of_mem (((setOf_rise (first :: come)).2 first).2 (by simp))
      refine g_step rfl (s_val (v_assign rfl) rfl rfl ?_)
      refine g_nil ?_
      refine g_next hK18 ?_
      refine g_seq (fun K19 hK19 => ?_)
      refine g_seq (fun K20 hK20 => ?_)
      refine g_region ?_
      refine g_step rfl (s_val (v_assign rfl) rfl rfl ?_)
      refine g_nil ?_
      refine g_next hK20 ?_
      refine g_block ?_
      first | refine g_keep [1, 2, 3, 11, 12, 14, 15, 16] [] [] (keep_cons rfl (keep_cons rfl (keep_cons rfl (keep_cons rfl (keep_cons rfl (keep_cons rfl (keep_cons rfl (keep_cons rfl keep_nil)))))))) lkeep_nil keep_nil rfl ?_ | refine g_keep [1, 2, 3, 11, 12, 14, 15, 16] [] [] rfl rfl rfl rfl ?_
      refine g_loop (fun n env L B G => ∃ (i : Nat) (s : Rg) (h1 : AHeap) (b : Bool), i ≤ (2 * (setOf (first :: come)).length - 1) ∧ n = (2 * (setOf (first :: come)).length - 1) - i ∧ env = [(1, .int .i64 first), (2, .imm (come.map (.int .i64))), (3, .imm (at'.map (.int .i64))), (11, .box p 0), (12, .box q 0), (14, .imm ((setOf (first :: come)).map (.int .i64))), (15, .bool b), (16, .int .i64 (i : Int))] ∧ L = [] ∧ B = [] ∧ Sep w0.heap.size G [h1, noH, noH] ∧ RIs h1 p q s ∧ H.sub G ∧ s.left.length + s.done.length ≤ 120 + 12 * i ∧ FairR first (setOf (first :: come)) i (hereUpTo first come at' (i - 1) come.length) s b) ((2 * (setOf (first :: come)).length - 1)) ⟨0, s, h1, false, Nat.zero_le _, rfl, rfl, rfl, rfl, ⟨hS, hR, hs_H, by omega, ⟨hnd, fun h => absurd h (by omega), fun _ h => absurd h (by omega)⟩⟩⟩ (fun n env L B G hI => ?_)
      obtain ⟨i, s, h1, b, hi, rfl, rfl, rfl, rfl, hS, hR, hs_H, hsz, hF⟩ := hI
      refine g_seq (fun K21 hK21 => ?_)
      refine g_seq (fun K22 hK22 => ?_)
      refine g_region ?_
      refine g_step rfl (s_val (v_move rfl) rfl rfl ?_)
      refine g_step rfl (s_val (v_move rfl) rfl rfl ?_)
      refine g_step rfl (s_val (v_len ty41 rfl (by first | rfl | assumption) (by first | exact List.length_map .. | rfl)) rfl rfl ?_)
      refine g_step rfl (s_val (v_mul rfl rfl (by omega)) rfl rfl ?_)
      refine g_step rfl (s_val (v_sub_ rfl rfl (by omega)) rfl rfl ?_)
      refine g_step rfl (s_val (v_lss rfl rfl) rfl rfl ?_)
      refine g_nil ?_
      refine g_next hK22 ?_
      refine g_cond rfl (fun hc75 => ?_) (fun hc75 => ?_)
      ·
       try simp only [decide_eq_true_eq, decide_eq_false_iff_not, Bool.not_eq_true', Bool.not_eq_false', Bool.not_eq_eq_eq_not, Bool.not_true, Bool.not_false, Bool.and_eq_true, Bool.or_eq_true, Bool.or_eq_false_iff, beq_iff_eq, beq_eq_false_iff_ne, ne_eq, Int.not_lt, Int.not_le, Decidable.not_not] at hc75
       refine g_skip ?_
       refine g_next hK21 ?_
       refine g_seq (fun K23 hK23 => ?_)
       refine g_block ?_
       refine g_seq (fun K24 hK24 => ?_)
       refine g_region ?_
       obtain ⟨G0, rfl⟩ : ∃ G0, G0 = G := ⟨_, rfl⟩
       have hthl := here_len (first := first) (come := come) (at' := at') (i := i) come.length
       have hrs := rSize s (hereUpTo first come at' i come.length)
       refine g_step rfl (s_val (v_move rfl) rfl rfl ?_)
       refine g_step rfl (s_litO (l := [.int .i64 first]) ty41 ty3 rfl rfl rfl rfl rfl rfl rfl (fun qq hqq1 hqq2 => ?_))
       refine g_step rfl (s_val (v_assign rfl) rfl rfl ?_)
       refine g_nil ?_
       refine g_next hK24 ?_
       refine g_seq (fun K25 hK25 => ?_)
       refine g_seq (fun K26 hK26 => ?_)
       refine g_region ?_
       refine g_step rfl (s_val (v_assign rfl) rfl rfl ?_)
       refine g_nil ?_
       refine g_next hK26 ?_
       refine g_block ?_
       first | refine g_keep [1, 2, 3, 11, 12, 14, 15, 16, 17, 18] [] [] (keep_cons rfl (keep_cons rfl (keep_cons rfl (keep_cons rfl (keep_cons rfl (keep_cons rfl (keep_cons rfl (keep_cons rfl (keep_cons rfl (keep_cons rfl keep_nil)))))))))) lkeep_nil keep_nil rfl ?_ | refine g_keep [1, 2, 3, 11, 12, 14, 15, 16, 17, 18] [] [] rfl rfl rfl rfl ?_
       refine g_loop (fun n env L B G => ∃ (k : Nat) (av17 : AV), k ≤ come.length ∧ n = come.length - k ∧ env = [(1, .int .i64 first), (2, .imm (come.map (.int .i64))), (3, .imm (at'.map (.int .i64))), (11, .box p 0), (12, .box q 0), (14, .imm ((setOf (first :: come)).map (.int .i64))), (15, .bool b), (16, .int .i64 (i : Int)), (17, av17), (18, .int .i64 (k : Int))] ∧ L = [] ∧ B = [] ∧ Own w0.heap.size 1 G0 av17 ((hereUpTo first come at' i k).map (.int .i64)) G) (come.length) ⟨0, .own qq 1 0 1, Nat.zero_le _, rfl, rfl, rfl, rfl, .inr ⟨qq, hqq1, hqq2, rfl, rfl⟩⟩ (fun n env L B G hI => ?_)
       obtain ⟨k, av17, hk, rfl, rfl, rfl, rfl, hown⟩ := hI
       have hthk := here_len (first := first) (come := come) (at' := at') (i := i) k
       refine g_seq (fun K27 hK27 => ?_)
       refine g_seq (fun K28 hK28 => ?_)
       refine g_region ?_
       refine g_step rfl (s_val (v_move rfl) rfl rfl ?_)
       refine g_step rfl (s_val (v_move rfl) rfl rfl ?_)
       refine g_step rfl (s_val (v_len ty41 rfl (by first | rfl | assumption) (by first | exact List.length_map .. | rfl)) rfl rfl ?_)
       refine g_step rfl (s_val (v_lss rfl rfl) rfl rfl ?_)
       refine g_nil ?_
       refine g_next hK28 ?_
       refine g_cond rfl (fun hc83 => ?_) (fun hc83 => ?_)
       ·
        try simp only [decide_eq_true_eq, decide_eq_false_iff_not, Bool.not_eq_true', Bool.not_eq_false', Bool.not_eq_eq_eq_not, Bool.not_true, Bool.not_false, Bool.and_eq_true, Bool.or_eq_true, Bool.or_eq_false_iff, beq_iff_eq, beq_eq_false_iff_ne, ne_eq, Int.not_lt, Int.not_le, Decidable.not_not] at hc83
        obtain ⟨c, hc⟩ := get_some (l := come) (k := k) (by omega)
        obtain ⟨a, ha⟩ := get_some (l := at') (k := k) (by omega)
        refine g_skip ?_
        refine g_next hK27 ?_
        refine g_seq (fun K29 hK29 => ?_)
        refine g_block ?_
        refine g_seq (fun K30 hK30 => ?_)
        refine g_region ?_
        refine g_step rfl (s_val (v_move rfl) rfl rfl ?_)
        refine g_step rfl (s_val (v_move rfl) rfl rfl ?_)
        refine g_step rfl (s_val (v_indexAddr ty41 ty3 rfl rfl rfl rfl (map_get ha) rfl) rfl rfl ?_)
        refine g_step rfl (s_val (by first | exact v_load ty3 rfl rfl rfl (map_get ha) rfl | exact v_load_box ty3 rfl rfl (by assumption) rfl) rfl rfl ?_)
        refine g_step rfl (s_val (v_move rfl) rfl rfl ?_)
        refine g_step rfl (s_val (v_leq rfl rfl) rfl rfl ?_)
        refine g_nil ?_
        refine g_next hK30 ?_
        refine g_cond rfl (fun hc91 => ?_) (fun hc91 => ?_)
        ·
         try simp only [decide_eq_true_eq, decide_eq_false_iff_not, Bool.not_eq_true', Bool.not_eq_false', Bool.not_eq_eq_eq_not, Bool.not_true, Bool.not_false, Bool.and_eq_true, Bool.or_eq_true, Bool.or_eq_false_iff, beq_iff_eq, beq_eq_false_iff_ne, ne_eq, Int.not_lt, Int.not_le, Decidable.not_not] at hc91
         refine g_region ?_
         refine g_step rfl (s_val (v_move rfl) rfl rfl ?_)
         refine g_step rfl (s_val (v_move rfl) rfl rfl ?_)
         refine g_step rfl (s_val (v_move rfl) rfl rfl ?_)
         refine g_step rfl (s_val (v_indexAddr ty41 ty3 rfl rfl (by first | rfl | assumption) (by first | rfl | exact (rfl : (0 : Int) = ((0 : Nat) : Int)) | exact (Int.toNat_of_nonneg (by omega)).symm) (by first | assumption | exact map_get (by assumption) | rfl) rfl) rfl rfl ?_)
         refine g_step rfl (s_val (by first | exact v_load ty3 rfl rfl (by first | rfl | assumption) (by first | assumption | exact map_get (by assumption) | rfl) rfl | exact v_load_box ty3 rfl rfl (by assumption) rfl) rfl rfl ?_)
         refine g_step rfl (s_lit ty41 ty3 rfl rfl rfl rfl rfl rfl rfl ?_)
         refine g_step rfl (s_append (l := ((hereUpTo first come at' i k).map (.int .i64))) (m := ([c].map (.int .i64))) ty41 ty3 rfl rfl hown rfl rfl (by refine Even.map _ ?_ _; intro _; rfl) (by intro x hx; obtain ⟨_, _, rfl⟩ := List.mem_map.1 hx; rfl) rfl (by simp; omega) (by simp; omega) ?_)
         intro av98 G98 h98
         refine g_step rfl (s_val (v_assign rfl) rfl rfl ?_)
         refine g_nil ?_
         refine g_block_normal ?_
         refine g_next hK29 ?_
         first | refine g_keep [1, 2, 3, 11, 12, 14, 15, 16, 17, 18] [] [] (keep_cons rfl (keep_cons rfl (keep_cons rfl (keep_cons rfl (keep_cons rfl (keep_cons rfl (keep_cons rfl (keep_cons rfl (keep_cons rfl (keep_cons rfl keep_nil)))))))))) lkeep_nil keep_nil rfl ?_ | refine g_keep [1, 2, 3, 11, 12, 14, 15, 16, 17, 18] [] [] rfl rfl rfl rfl ?_
         refine g_region ?_
         refine g_step rfl (s_val (v_move rfl) rfl rfl ?_)
         refine g_step rfl (s_val (v_add rfl rfl (by omega)) rfl rfl ?_)
         refine g_step rfl (s_val (v_assign rfl) rfl rfl ?_)
         refine g_nil ?_
         first | refine g_keep [1, 2, 3, 11, 12, 14, 15, 16, 17, 18] [] [] (keep_cons rfl (keep_cons rfl (keep_cons rfl (keep_cons rfl (keep_cons rfl (keep_cons rfl (keep_cons rfl (keep_cons rfl (keep_cons rfl (keep_cons rfl keep_nil)))))))))) lkeep_nil keep_nil rfl ?_ | refine g_keep [1, 2, 3, 11, 12, 14, 15, 16, 17, 18] [] [] rfl rfl rfl rfl ?_
         first | exact g_round _ (by omega) ⟨k + 1, av98, by omega, rfl, rfl, rfl, rfl, by rw [here_hit hc ha (by omega), List.map_append]; exact h98⟩ | exact g_round _ (by omega) ⟨k + 1, av17, by omega, rfl, rfl, rfl, rfl, by rw [here_miss hc ha (by omega)]; exact hown⟩
        ·
         try simp only [decide_eq_true_eq, decide_eq_false_iff_not, Bool.not_eq_true', Bool.not_eq_false', Bool.not_eq_eq_eq_not, Bool.not_true, Bool.not_false, Bool.and_eq_true, Bool.or_eq_true, Bool.or_eq_false_iff, beq_iff_eq, beq_eq_false_iff_ne, ne_eq, Int.not_lt, Int.not_le, Decidable.not_not] at hc91
         refine g_skip ?_
         refine g_block_normal ?_
         refine g_next hK29 ?_
         refine g_region ?_
         refine g_step rfl (s_val (v_move rfl) rfl rfl ?_)
         refine g_step rfl (s_val (v_add rfl rfl (by omega)) rfl rfl ?_)
         refine g_step rfl (s_val (v_assign rfl) rfl rfl ?_)
         refine g_nil ?_
         first | refine g_keep [1, 2, 3, 11, 12, 14, 15, 16, 17, 18] [] [] (keep_cons rfl (keep_cons rfl (keep_cons rfl (keep_cons rfl (keep_cons rfl (keep_cons rfl (keep_cons rfl (keep_cons rfl (keep_cons rfl (keep_cons rfl keep_nil)))))))))) lkeep_nil keep_nil rfl ?_ | refine g_keep [1, 2, 3, 11, 12, 14, 15, 16, 17, 18] [] [] rfl rfl rfl rfl ?_
         first | exact g_round _ (by omega) ⟨k + 1, av98, by omega, rfl, rfl, rfl, rfl, by rw [here_hit hc ha (by omega), List.map_append]; exact h98⟩ | exact g_round _ (by omega) ⟨k + 1, av17, by omega, rfl, rfl, rfl, rfl, by rw [here_miss hc ha (by omega)]; exact hown⟩
       ·
        try simp only [decide_eq_true_eq, decide_eq_false_iff_not, Bool.not_eq_true', Bool.not_eq_false', Bool.not_eq_eq_eq_not, Bool.not_true, Bool.not_false, Bool.and_eq_true, Bool.or_eq_true, Bool.or_eq_false_iff, beq_iff_eq, beq_eq_false_iff_ne, ne_eq, Int.not_lt, Int.not_le, Decidable.not_not] at hc83
        obtain rfl : k = come.length := by omega
        refine g_exit ?_
        refine g_then_exit ?_
        refine g_then_exit ?_
        refine g_block_same ?_
        refine g_next hK25 ?_
        refine g_seq (fun K31 hK31 => ?_)
        refine g_region ?_
        refine g_freeze 17 rfl hown ?_
        refine g_step rfl (s_val (v_move rfl) rfl rfl ?_)
        refine g_step rfl (s_val (v_move rfl) rfl rfl ?_)
        refine g_step rfl (s_val (v_move rfl) rfl rfl ?_)
        refine g_step rfl (s_call rfl rfl rfl (rNext_ok h1 p q s (hereUpTo first come at' i come.length) (encI (hereUpTo first come at' i come.length)) _ hR (hS.1 h1 (by simp)).1 rfl (by omega) (by omega) (by omega)) (fun b hb => .inr ((hS.1 h1 (by simp)).2 b hb)) ?_)
        rintro n5 v5 effs5 hn5 hdom5 ⟨rfl, h2, hE, hR2⟩ hok5
        have hS2 := hS.turn (l1 := []) hE hn5 hdom5
        have hs2 := hE.frame hdom5 hs_H (fun b hb => hw0 b ((hS.1 h1 (by simp)).2 b hb))
        generalize hG2 : setAll G0 effs5 = G2
        rw [hG2] at hS2 hs2
        refine g_step rfl (s_val (v_move rfl) rfl rfl ?_)
        refine g_step rfl (s_val (v_extract rfl rfl) rfl rfl ?_)
        refine g_step rfl (s_val (v_extract rfl rfl) rfl rfl ?_)
        refine g_step rfl (s_val (v_assign rfl) rfl rfl ?_)
        refine g_step rfl (s_val (v_assign rfl) rfl rfl ?_)
        refine g_nil ?_
        refine g_next hK31 ?_
        refine g_seq (fun K32 hK32 => ?_)
        refine g_seq (fun K33 hK33 => ?_)
        refine g_region ?_
        obtain ⟨y, hy1, hy2, hF2⟩ := hF.next (t' := (hereUpTo first come at' i come.length)) (here_first _) (fun _ => here_mono (by omega) _) here_set
        have hv1 : (rNext s (hereUpTo first come at' i come.length)).2.1 = y := congrArg Prod.fst hy1
        have hv2 : (rNext s (hereUpTo first come at' i come.length)).2.2 = true := congrArg Prod.snd hy1
        refine g_step rfl (s_val (v_move rfl) rfl rfl ?_)
        refine g_step rfl (s_val (v_not rfl) rfl rfl ?_)
        refine g_step rfl (s_val (v_move rfl) rfl rfl ?_)
        refine g_split 108 rfl (fun hg108 => ?_) (fun hg108 => ?_)
        · exfalso; (try simp only [decide_eq_true_eq, decide_eq_false_iff_not, Bool.not_eq_true', Bool.not_eq_false', Bool.not_eq_eq_eq_not, Bool.not_true, Bool.not_false, Bool.and_eq_true, Bool.or_eq_true, Bool.or_eq_false_iff, beq_iff_eq, beq_eq_false_iff_ne, ne_eq, Int.not_lt, Int.not_le, Decidable.not_not] at hg108); first | exact absurd (hg108.symm.trans hv2) (by simp) | (rw [hv2] at hg108; simp at hg108)
        ·
         try simp only [decide_eq_true_eq, decide_eq_false_iff_not, Bool.not_eq_true', Bool.not_eq_false', Bool.not_eq_eq_eq_not, Bool.not_true, Bool.not_false, Bool.and_eq_true, Bool.or_eq_true, Bool.or_eq_false_iff, beq_iff_eq, beq_eq_false_iff_ne, ne_eq, Int.not_lt, Int.not_le, Decidable.not_not] at hg108
         refine g_step_yes (j := 2) (t := 108) rfl rfl rfl rfl (s_val (v_move rfl) rfl rfl ?_)
         refine g_step_yes (j := 2) (t := 108) rfl rfl rfl rfl (s_val (v_move rfl) rfl rfl ?_)
         refine g_step_yes (j := 2) (t := 108) rfl rfl rfl rfl (s_callp rfl rfl rfl (has20_ok (hereUpTo first come at' i come.length) (rNext s (hereUpTo first come at' i come.length)).2.1 _ _ rfl (by omega)) ?_)
         rintro _ rfl
         refine g_step_yes (j := 2) (t := 108) rfl rfl rfl rfl (s_val (v_not rfl) rfl rfl ?_)
         refine g_step rfl (s_val (v_pick_f rfl rfl) rfl rfl ?_)
         refine g_nil ?_
         refine g_next hK33 ?_
         first | refine g_keep [1, 2, 3, 11, 12, 14, 15, 16, 19, 113] [] [] (keep_cons rfl (keep_cons rfl (keep_cons rfl (keep_cons rfl (keep_cons rfl (keep_cons rfl (keep_cons rfl (keep_cons rfl (keep_cons rfl (keep_cons rfl keep_nil)))))))))) lkeep_nil keep_nil rfl ?_ | refine g_keep [1, 2, 3, 11, 12, 14, 15, 16, 19, 113] [] [] rfl rfl rfl rfl ?_
         refine g_cond rfl (fun hc113 => ?_) (fun hc113 => ?_)
         · exfalso; (try simp only [decide_eq_true_eq, decide_eq_false_iff_not, Bool.not_eq_true', Bool.not_eq_false', Bool.not_eq_eq_eq_not, Bool.not_true, Bool.not_false, Bool.and_eq_true, Bool.or_eq_true, Bool.or_eq_false_iff, beq_iff_eq, beq_eq_false_iff_ne, ne_eq, Int.not_lt, Int.not_le, Decidable.not_not] at hc113); first | exact hc113 (hv1 ▸ hy2) | exact absurd (hv1 ▸ hy2) hc113 | (simp [hv1, hy2] at hc113; done)
         ·
          try simp only [decide_eq_true_eq, decide_eq_false_iff_not, Bool.not_eq_true', Bool.not_eq_false', Bool.not_eq_eq_eq_not, Bool.not_true, Bool.not_false, Bool.and_eq_true, Bool.or_eq_true, Bool.or_eq_false_iff, beq_iff_eq, beq_eq_false_iff_ne, ne_eq, Int.not_lt, Int.not_le, Decidable.not_not] at hc113
          refine g_skip ?_
          refine g_next hK32 ?_
          refine g_seq (fun K34 hK34 => ?_)
          refine g_region ?_
          refine g_step rfl (s_val (v_move rfl) rfl rfl ?_)
          refine g_step rfl (s_val (v_move rfl) rfl rfl ?_)
          refine g_step rfl (s_val (v_eql rfl rfl) rfl rfl ?_)
          refine g_nil ?_
          refine g_next hK34 ?_
          refine g_cond rfl (fun hc116 => ?_) (fun hc116 => ?_)
          ·
           try simp only [decide_eq_true_eq, decide_eq_false_iff_not, Bool.not_eq_true', Bool.not_eq_false', Bool.not_eq_eq_eq_not, Bool.not_true, Bool.not_false, Bool.and_eq_true, Bool.or_eq_true, Bool.or_eq_false_iff, beq_iff_eq, beq_eq_false_iff_ne, ne_eq, Int.not_lt, Int.not_le, Decidable.not_not] at hc116
           refine g_region ?_
           refine g_step rfl (s_val (v_assign rfl) rfl rfl ?_)
           refine g_nil ?_
           refine g_block_normal ?_
           refine g_next hK23 ?_
           refine g_region ?_
           refine g_step rfl (s_val (v_move rfl) rfl rfl ?_)
           refine g_step rfl (s_val (v_add rfl rfl (by omega)) rfl rfl ?_)
           refine g_step rfl (s_val (v_assign rfl) rfl rfl ?_)
           refine g_nil ?_
           first | refine g_keep [1, 2, 3, 11, 12, 14, 15, 16] [] [] (keep_cons rfl (keep_cons rfl (keep_cons rfl (keep_cons rfl (keep_cons rfl (keep_cons rfl (keep_cons rfl (keep_cons rfl keep_nil)))))))) lkeep_nil keep_nil rfl ?_ | refine g_keep [1, 2, 3, 11, 12, 14, 15, 16] [] [] rfl rfl rfl rfl ?_
           first | exact g_round _ (by omega) ⟨i + 1, (rNext s (hereUpTo first come at' i come.length)).1, h2, true, by omega, rfl, rfl, rfl, rfl, ⟨hS2, hR2, hs2, by omega, by rw [show (b || decide (y = first)) = true by rw [decide_eq_true (hv1.symm.trans hc116), Bool.or_true]] at hF2; exact hF2⟩⟩ | exact g_round _ (by omega) ⟨i + 1, (rNext s (hereUpTo first come at' i come.length)).1, h2, b, by omega, rfl, rfl, rfl, rfl, ⟨hS2, hR2, hs2, by omega, by rw [show (b || decide (y = first)) = b by rw [decide_eq_false (fun e => hc116 (hv1.trans e)), Bool.or_false]] at hF2; exact hF2⟩⟩
          ·
           try simp only [decide_eq_true_eq, decide_eq_false_iff_not, Bool.not_eq_true', Bool.not_eq_false', Bool.not_eq_eq_eq_not, Bool.not_true, Bool.not_false, Bool.and_eq_true, Bool.or_eq_true, Bool.or_eq_false_iff, beq_iff_eq, beq_eq_false_iff_ne, ne_eq, Int.not_lt, Int.not_le, Decidable.not_not] at hc116
           refine g_skip ?_
           refine g_block_normal ?_
           refine g_next hK23 ?_
           refine g_region ?_
           refine g_step rfl (s_val (v_move rfl) rfl rfl ?_)
           refine g_step rfl (s_val (v_add rfl rfl (by omega)) rfl rfl ?_)
           refine g_step rfl (s_val (v_assign rfl) rfl rfl ?_)
           refine g_nil ?_
           first | refine g_keep [1, 2, 3, 11, 12, 14, 15, 16] [] [] (keep_cons rfl (keep_cons rfl (keep_cons rfl (keep_cons rfl (keep_cons rfl (keep_cons rfl (keep_cons rfl (keep_cons rfl keep_nil)))))))) lkeep_nil keep_nil rfl ?_ | refine g_keep [1, 2, 3, 11, 12, 14, 15, 16] [] [] rfl rfl rfl rfl ?_
           first | exact g_round _ (by omega) ⟨i + 1, (rNext s (hereUpTo first come at' i come.length)).1, h2, true, by omega, rfl, rfl, rfl, rfl, ⟨hS2, hR2, hs2, by omega, by rw [show (b || decide (y = first)) = true by rw [decide_eq_true (hv1.symm.trans hc116), Bool.or_true]] at hF2; exact hF2⟩⟩ | exact g_round _ (by omega) ⟨i + 1, (rNext s (hereUpTo first come at' i come.length)).1, h2, b, by omega, rfl, rfl, rfl, rfl, ⟨hS2, hR2, hs2, by omega, by rw [show (b || decide (y = first)) = b by rw [decide_eq_false (fun e => hc116 (hv1.trans e)), Bool.or_false]] at hF2; exact hF2⟩⟩
      ·
       try simp only [decide_eq_true_eq, decide_eq_false_iff_not, Bool.not_eq_true', Bool.not_eq_false', Bool.not_eq_eq_eq_not, Bool.not_true, Bool.not_false, Bool.and_eq_true, Bool.or_eq_true, Bool.or_eq_false_iff, beq_iff_eq, beq_eq_false_iff_ne, ne_eq, Int.not_lt, Int.not_le, Decidable.not_not] at hc75
       refine g_exit ?_
       refine g_then_exit ?_
       refine g_then_exit ?_
       refine g_block_same ?_
       refine g_next hK19 ?_
       refine g_seq (fun K35 hK35 => ?_)
       refine g_region ?_
       have hb := hF.done (here_first _) here_set (by omega)
       subst hb
       refine g_step rfl (s_val (v_move rfl) rfl rfl ?_)
       refine g_step rfl (s_val (v_move rfl) rfl rfl ?_)
       refine g_split 118 rfl (fun hg118 => ?_) (fun hg118 => ?_)
       ·
        try simp only [decide_eq_true_eq, decide_eq_false_iff_not, Bool.not_eq_true', Bool.not_eq_false', Bool.not_eq_eq_eq_not, Bool.not_true, Bool.not_false, Bool.and_eq_true, Bool.or_eq_true, Bool.or_eq_false_iff, beq_iff_eq, beq_eq_false_iff_ne, ne_eq, Int.not_lt, Int.not_le, Decidable.not_not] at hg118
        refine g_step_yes (j := 1) (t := 118) rfl rfl rfl rfl (s_callp rfl rfl rfl (awake20_ok _) ?_)
        rintro _ rfl
        refine g_step rfl (s_val (v_pick_t rfl rfl) rfl rfl ?_)
        refine g_step rfl (s_val (v_assign rfl) rfl rfl ?_)
        refine g_nil ?_
        refine g_next hK35 ?_
        refine g_ret ?_
        refine g_end1 (.inl rfl) Try.results5 (.tmp rfl) [] (ASub.refl _) (by first | exact hs_H | exact AHeap.sub_refl _) (fun p hp => by cases hp) ⟨rfl, ?_⟩
        rfl
       · exfalso; (try simp only [decide_eq_true_eq, decide_eq_false_iff_not, Bool.not_eq_true', Bool.not_eq_false', Bool.not_eq_eq_eq_not, Bool.not_true, Bool.not_false, Bool.and_eq_true, Bool.or_eq_true, Bool.or_eq_false_iff, beq_iff_eq, beq_eq_false_iff_ne, ne_eq, Int.not_lt, Int.not_le, Decidable.not_not] at hg118); first | exact hg118 rfl | (simp at hg118; done)

end Go.Proofs.Ytobigfbgaiglkaa

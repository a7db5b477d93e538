import Derived.Test.YtobigfbgaiglkaaBaseO
import Derived.Test.YtobigfbgaiglkaaBase3
import Derived.Test.YtobigfbgaiglkaaPBase5
set_option maxHeartbeats 8000000
set_option linter.unusedSimpArgs false
set_option linter.unusedVariables false
set_option maxRecDepth 100000
namespace Go.Proofs.Ytobigfbgaiglkaa
open Go Go.Proofs.Ytobigfbgaiglkaa.AM
theorem lkeep_ok (p : IP) (a : IAct) (hnd : (p.rows.map BRow.epoch).Nodup ∧ p.rows.length ≤ 4) (hl : a.recs.length ≤ 1000) (hs : ∀ x ∈ a.recs, Small x.bag) (G : AHeap) : PCalls Try.prog 46 [encIP p, encIA a] G (fun v => ∃ p' ok, v = .tup [encIP p', .bool ok] ∧ LKeep p a p' ok) := by
 refine LCalls.intro 144 fi46 rfl Try.ntmps46 rfl (fun _ h => h.elim) (fun H hH w0 hw0 => ?_)
 refine g_seq (fun K0 hK0 => ?_)
 refine g_region ?_
 refine g_step rfl (s_box rfl rfl rfl rfl ?_)
 refine g_step rfl (s_box rfl rfl rfl rfl ?_)
 refine g_step rfl (s_alloc (av := (.agg [(.bool false), (.int .i64 0), .nil0])) ty85 rfl rfl rfl rfl ?_)
 refine g_step rfl (s_val (v_assign rfl) rfl rfl ?_)
 refine g_nil ?_
 refine g_next hK0 ?_
 refine g_cut (fun env L B G => env = [] ∧ L = [(2, 2, 0), (3, 3, 0), (4, 4, 0)] ∧ B = [(2, (encIP p)), (3, (encIA a)), (4, (.agg [.bool false, .int .i64 0, .nil0]))] ∧ H = G ∧ lbad p a = false) ?_ (fun env L B G hI => ?_)
 ·
  refine g_seq (fun K1 hK1 => ?_)
  refine g_region ?_
  refine g_step rfl (s_fieldAddr ty83 fo83_2 ty3 rfl rfl ?_)
  refine g_step rfl (s_val (v_loadl ty3 rfl rfl rfl rfl) rfl rfl ?_)
  refine g_step rfl (s_val (v_lss rfl rfl) rfl rfl ?_)
  refine g_step rfl (s_val (v_move rfl) rfl rfl ?_)
  refine g_split 13 rfl (fun hg13 => ?_) (fun hg13 => ?_)
  ·
   try simp only [decide_eq_true_eq, decide_eq_false_iff_not, Bool.not_eq_true', Bool.not_eq_false', Bool.not_eq_eq_eq_not, Bool.not_true, Bool.not_false, Bool.and_eq_true, Bool.or_eq_true, Bool.or_eq_false_iff, beq_iff_eq, beq_eq_false_iff_ne, ne_eq, Int.not_lt, Int.not_le, Decidable.not_not] at hg13
   refine g_step_no (j := 3) (t := 13) rfl rfl rfl rfl rfl rfl rfl ?_
   refine g_step_no (j := 3) (t := 13) rfl rfl rfl rfl rfl rfl rfl ?_
   refine g_step_no (j := 3) (t := 13) rfl rfl rfl rfl rfl rfl rfl ?_
   refine g_step_no (j := 3) (t := 13) rfl rfl rfl rfl rfl rfl rfl ?_
   refine g_step rfl (s_val (v_pick_t rfl rfl) rfl rfl ?_)
   refine g_step rfl (s_val (v_move rfl) rfl rfl ?_)
   refine g_step_no (j := 9) (t := 19) rfl rfl rfl rfl rfl rfl rfl ?_
   refine g_step_no (j := 9) (t := 19) rfl rfl rfl rfl rfl rfl rfl ?_
   refine g_step_no (j := 9) (t := 19) rfl rfl rfl rfl rfl rfl rfl ?_
   refine g_step_und (j := 12) (t := 22) rfl rfl rfl rfl rfl rfl ?_
   refine g_step_und (j := 12) (t := 22) rfl rfl rfl rfl rfl rfl ?_
   refine g_step_und (j := 12) (t := 22) rfl rfl rfl rfl rfl rfl ?_
   refine g_step_und (j := 12) (t := 22) rfl rfl rfl rfl rfl rfl ?_
   refine g_step_und (j := 12) (t := 22) rfl rfl rfl rfl rfl rfl ?_
   refine g_step_no (j := 9) (t := 19) rfl rfl rfl rfl rfl rfl rfl ?_
   refine g_step rfl (s_val (v_pick_t rfl rfl) rfl rfl ?_)
   refine g_nil ?_
   refine g_next hK1 ?_
   refine g_cond rfl (fun _ => ?_) (fun h => by cases h)
   refine g_seq (fun K2 hK2 => ?_)
   refine g_region ?_
   refine g_step rfl (s_val (by first | exact v_loadl_all ty85 rfl rfl rfl rfl rfl | exact v_loadl_part (cs := [_, _, _]) ty85 rfl rfl rfl rfl rfl rfl) rfl rfl ?_)
   refine g_step rfl (s_store_all ty85 rfl rfl rfl rfl rfl rfl ?_)
   refine g_step rfl (s_val (v_assign rfl) rfl rfl ?_)
   refine g_nil ?_
   refine g_next hK2 ?_
   refine g_ret ?_
   refine g_then_ret ?_
   refine g_end2 (.inl rfl) Try.results46 (.agg ty85 rfl rfl rfl rfl rfl) (.tmp rfl) [] (ASub.refl _) (by first | exact AHeap.sub_refl _ | exact hown.sub) (fun p hp => by cases hp) ⟨rfl, p, false, rfl, .inl ⟨rfl, rfl, .inl (by simp [lbad, *])⟩⟩
  ·
   try simp only [decide_eq_true_eq, decide_eq_false_iff_not, Bool.not_eq_true', Bool.not_eq_false', Bool.not_eq_eq_eq_not, Bool.not_true, Bool.not_false, Bool.and_eq_true, Bool.or_eq_true, Bool.or_eq_false_iff, beq_iff_eq, beq_eq_false_iff_ne, ne_eq, Int.not_lt, Int.not_le, Decidable.not_not] at hg13
   refine g_step_yes (j := 3) (t := 13) rfl rfl rfl rfl (s_fieldAddr ty83 fo83_4 ty64 rfl rfl ?_)
   refine g_step_yes (j := 3) (t := 13) rfl rfl rfl rfl (s_val (v_loadl ty64 rfl rfl rfl rfl) rfl rfl ?_)
   refine g_step_yes (j := 3) (t := 13) rfl rfl rfl rfl (s_callp rfl rfl rfl (sorted_ok a.recs _ (by omega) hs) ?_)
   rintro _ rfl
   refine g_step_yes (j := 3) (t := 13) rfl rfl rfl rfl (s_val (v_not rfl) rfl rfl ?_)
   refine g_step rfl (s_val (v_pick_f rfl rfl) rfl rfl ?_)
   refine g_step rfl (s_val (v_move rfl) rfl rfl ?_)
   refine g_split 19 rfl (fun hg19 => ?_) (fun hg19 => ?_)
   ·
    try simp only [decide_eq_true_eq, decide_eq_false_iff_not, Bool.not_eq_true', Bool.not_eq_false', Bool.not_eq_eq_eq_not, Bool.not_true, Bool.not_false, Bool.and_eq_true, Bool.or_eq_true, Bool.or_eq_false_iff, beq_iff_eq, beq_eq_false_iff_ne, ne_eq, Int.not_lt, Int.not_le, Decidable.not_not] at hg19
    refine g_step_no (j := 9) (t := 19) rfl rfl rfl rfl rfl rfl rfl ?_
    refine g_step_no (j := 9) (t := 19) rfl rfl rfl rfl rfl rfl rfl ?_
    refine g_step_no (j := 9) (t := 19) rfl rfl rfl rfl rfl rfl rfl ?_
    refine g_step_und (j := 12) (t := 22) rfl rfl rfl rfl rfl rfl ?_
    refine g_step_und (j := 12) (t := 22) rfl rfl rfl rfl rfl rfl ?_
    refine g_step_und (j := 12) (t := 22) rfl rfl rfl rfl rfl rfl ?_
    refine g_step_und (j := 12) (t := 22) rfl rfl rfl rfl rfl rfl ?_
    refine g_step_und (j := 12) (t := 22) rfl rfl rfl rfl rfl rfl ?_
    refine g_step_no (j := 9) (t := 19) rfl rfl rfl rfl rfl rfl rfl ?_
    refine g_step rfl (s_val (v_pick_t rfl rfl) rfl rfl ?_)
    refine g_nil ?_
    refine g_next hK1 ?_
    refine g_cond rfl (fun _ => ?_) (fun h => by cases h)
    refine g_seq (fun K3 hK3 => ?_)
    refine g_region ?_
    refine g_step rfl (s_val (by first | exact v_loadl_all ty85 rfl rfl rfl rfl rfl | exact v_loadl_part (cs := [_, _, _]) ty85 rfl rfl rfl rfl rfl rfl) rfl rfl ?_)
    refine g_step rfl (s_store_all ty85 rfl rfl rfl rfl rfl rfl ?_)
    refine g_step rfl (s_val (v_assign rfl) rfl rfl ?_)
    refine g_nil ?_
    refine g_next hK3 ?_
    refine g_ret ?_
    refine g_then_ret ?_
    refine g_end2 (.inl rfl) Try.results46 (.agg ty85 rfl rfl rfl rfl rfl) (.tmp rfl) [] (ASub.refl _) (by first | exact AHeap.sub_refl _ | exact hown.sub) (fun p hp => by cases hp) ⟨rfl, p, false, rfl, .inl ⟨rfl, rfl, .inl (by simp [lbad, *])⟩⟩
   ·
    try simp only [decide_eq_true_eq, decide_eq_false_iff_not, Bool.not_eq_true', Bool.not_eq_false', Bool.not_eq_eq_eq_not, Bool.not_true, Bool.not_false, Bool.and_eq_true, Bool.or_eq_true, Bool.or_eq_false_iff, beq_iff_eq, beq_eq_false_iff_ne, ne_eq, Int.not_lt, Int.not_le, Decidable.not_not] at hg19
    refine g_step_yes (j := 9) (t := 19) rfl rfl rfl rfl (s_fieldAddr ty85 fo85_0 ty4 rfl rfl ?_)
    refine g_step_yes (j := 9) (t := 19) rfl rfl rfl rfl (s_val (v_loadl ty4 rfl rfl rfl rfl) rfl rfl ?_)
    refine g_step_yes (j := 9) (t := 19) rfl rfl rfl rfl (s_val (v_move rfl) rfl rfl ?_)
    refine g_split 22 rfl (fun hg22 => ?_) (fun hg22 => ?_)
    ·
     try simp only [decide_eq_true_eq, decide_eq_false_iff_not, Bool.not_eq_true', Bool.not_eq_false', Bool.not_eq_eq_eq_not, Bool.not_true, Bool.not_false, Bool.and_eq_true, Bool.or_eq_true, Bool.or_eq_false_iff, beq_iff_eq, beq_eq_false_iff_ne, ne_eq, Int.not_lt, Int.not_le, Decidable.not_not] at hg22
     refine g_step_yes (j := 12) (t := 22) rfl rfl rfl rfl (s_fieldAddr ty83 fo83_1 ty3 rfl rfl ?_)
     refine g_step_yes (j := 12) (t := 22) rfl rfl rfl rfl (s_val (v_loadl ty3 rfl rfl rfl rfl) rfl rfl ?_)
     refine g_step_yes (j := 12) (t := 22) rfl rfl rfl rfl (s_fieldAddr ty85 fo85_1 ty3 rfl rfl ?_)
     refine g_step_yes (j := 12) (t := 22) rfl rfl rfl rfl (s_val (v_loadl ty3 rfl rfl rfl rfl) rfl rfl ?_)
     refine g_step_yes (j := 12) (t := 22) rfl rfl rfl rfl (s_val (v_lss rfl rfl) rfl rfl ?_)
     refine g_step_yes (j := 9) (t := 19) rfl rfl rfl rfl (s_val (v_pick_t rfl rfl) rfl rfl ?_)
     refine g_step rfl (s_val (v_pick_f rfl rfl) rfl rfl ?_)
     refine g_nil ?_
     refine g_next hK1 ?_
     refine g_cond rfl (fun hc29 => ?_) (fun hc29 => ?_)
     ·
      try simp only [decide_eq_true_eq, decide_eq_false_iff_not, Bool.not_eq_true', Bool.not_eq_false', Bool.not_eq_eq_eq_not, Bool.not_true, Bool.not_false, Bool.and_eq_true, Bool.or_eq_true, Bool.or_eq_false_iff, beq_iff_eq, beq_eq_false_iff_ne, ne_eq, Int.not_lt, Int.not_le, Decidable.not_not] at hc29
      refine g_seq (fun K4 hK4 => ?_)
      refine g_region ?_
      refine g_step rfl (s_val (by first | exact v_loadl_all ty85 rfl rfl rfl rfl rfl | exact v_loadl_part (cs := [_, _, _]) ty85 rfl rfl rfl rfl rfl rfl) rfl rfl ?_)
      refine g_step rfl (s_store_all ty85 rfl rfl rfl rfl rfl rfl ?_)
      refine g_step rfl (s_val (v_assign rfl) rfl rfl ?_)
      refine g_nil ?_
      refine g_next hK4 ?_
      refine g_ret ?_
      refine g_then_ret ?_
      refine g_end2 (.inl rfl) Try.results46 (.agg ty85 rfl rfl rfl rfl rfl) (.tmp rfl) [] (ASub.refl _) (by first | exact AHeap.sub_refl _ | exact hown.sub) (fun p hp => by cases hp) ⟨rfl, p, false, rfl, .inl ⟨rfl, rfl, .inl (by simp [lbad, *])⟩⟩
     ·
      try simp only [decide_eq_true_eq, decide_eq_false_iff_not, Bool.not_eq_true', Bool.not_eq_false', Bool.not_eq_eq_eq_not, Bool.not_true, Bool.not_false, Bool.and_eq_true, Bool.or_eq_true, Bool.or_eq_false_iff, beq_iff_eq, beq_eq_false_iff_ne, ne_eq, Int.not_lt, Int.not_le, Decidable.not_not] at hc29
      refine g_skip ?_
      first | refine g_keep [] [2, 3, 4] [2, 3, 4] keep_nil (lkeep_cons rfl (lkeep_cons rfl (lkeep_cons rfl lkeep_nil))) (keep_cons rfl (keep_cons rfl (keep_cons rfl keep_nil))) rfl ?_ | refine g_keep [] [2, 3, 4] [2, 3, 4] rfl rfl rfl rfl ?_
      exact g_has ⟨rfl, rfl, rfl, rfl, (by first | (simp [lbad, *]; done) | (simp [lbad, *]; omega))⟩
    ·
     try simp only [decide_eq_true_eq, decide_eq_false_iff_not, Bool.not_eq_true', Bool.not_eq_false', Bool.not_eq_eq_eq_not, Bool.not_true, Bool.not_false, Bool.and_eq_true, Bool.or_eq_true, Bool.or_eq_false_iff, beq_iff_eq, beq_eq_false_iff_ne, ne_eq, Int.not_lt, Int.not_le, Decidable.not_not] at hg22
     refine g_step_no (j := 12) (t := 22) rfl rfl rfl rfl rfl rfl rfl ?_
     refine g_step_no (j := 12) (t := 22) rfl rfl rfl rfl rfl rfl rfl ?_
     refine g_step_no (j := 12) (t := 22) rfl rfl rfl rfl rfl rfl rfl ?_
     refine g_step_no (j := 12) (t := 22) rfl rfl rfl rfl rfl rfl rfl ?_
     refine g_step_no (j := 12) (t := 22) rfl rfl rfl rfl rfl rfl rfl ?_
     refine g_step_yes (j := 9) (t := 19) rfl rfl rfl rfl (s_val (v_pick_f rfl rfl) rfl rfl ?_)
     refine g_step rfl (s_val (v_pick_f rfl rfl) rfl rfl ?_)
     refine g_nil ?_
     refine g_next hK1 ?_
     refine g_cond rfl (fun h => by cases h) (fun _ => ?_)
     refine g_skip ?_
     first | refine g_keep [] [2, 3, 4] [2, 3, 4] keep_nil (lkeep_cons rfl (lkeep_cons rfl (lkeep_cons rfl lkeep_nil))) (keep_cons rfl (keep_cons rfl (keep_cons rfl keep_nil))) rfl ?_ | refine g_keep [] [2, 3, 4] [2, 3, 4] rfl rfl rfl rfl ?_
     exact g_has ⟨rfl, rfl, rfl, rfl, (by first | (simp [lbad, *]; done) | (simp [lbad, *]; omega))⟩
 ·
  obtain ⟨rfl, rfl, rfl, rfl, hlb⟩ := hI
  refine g_seq (fun K5 hK5 => ?_)
  refine g_region ?_
  refine g_step rfl (s_fieldAddr ty83 fo83_1 ty3 rfl rfl ?_)
  refine g_step rfl (s_val (v_loadl ty3 rfl rfl rfl rfl) rfl rfl ?_)
  refine g_step rfl (s_val (v_build (vs := [(0, _), (1, _)]) (zs := [(.bool false), (.int .i64 0), .nil0]) (cells := [_, _, _]) ty85 pl85 rfl rfl rfl) rfl rfl ?_)
  refine g_step rfl (s_alloc (av := (.agg [(.bool false), (.int .i64 0), .nil0])) ty85 rfl rfl rfl rfl ?_)
  refine g_step rfl (s_store_all ty85 rfl rfl rfl rfl rfl rfl ?_)
  refine g_nil ?_
  refine g_next hK5 ?_
  refine g_cut (fun env L B G => ∃ (av : AV), env = [] ∧ L = [(3, 3, 0), (4, 4, 0), (6, 6, 0)] ∧ B = [(3, (encIA a)), (4, (.agg [.bool false, .int .i64 0, .nil0])), (6, (.agg [.bool true, .int .i64 a.life, av]))] ∧ Own w0.heap.size 2 H av ((lpart p a).map encW) G ∧ lbad p a = false ∧ ¬ (lsame p a = true ∧ p.rows.any (hasEp a.epoch) = true)) ?_ (fun env L B G hI => ?_)
  ·
   refine g_seq (fun K6 hK6 => ?_)
   refine g_region ?_
   refine g_step rfl (s_fieldAddr ty85 fo85_0 ty4 rfl rfl ?_)
   refine g_step rfl (s_val (v_loadl ty4 rfl rfl rfl rfl) rfl rfl ?_)
   refine g_step rfl (s_val (v_move rfl) rfl rfl ?_)
   refine g_split 36 rfl (fun hg36 => ?_) (fun hg36 => ?_)
   ·
    try simp only [decide_eq_true_eq, decide_eq_false_iff_not, Bool.not_eq_true', Bool.not_eq_false', Bool.not_eq_eq_eq_not, Bool.not_true, Bool.not_false, Bool.and_eq_true, Bool.or_eq_true, Bool.or_eq_false_iff, beq_iff_eq, beq_eq_false_iff_ne, ne_eq, Int.not_lt, Int.not_le, Decidable.not_not] at hg36
    refine g_step_yes (j := 2) (t := 36) rfl rfl rfl rfl (s_fieldAddr ty83 fo83_1 ty3 rfl rfl ?_)
    refine g_step_yes (j := 2) (t := 36) rfl rfl rfl rfl (s_val (v_loadl ty3 rfl rfl rfl rfl) rfl rfl ?_)
    refine g_step_yes (j := 2) (t := 36) rfl rfl rfl rfl (s_fieldAddr ty85 fo85_1 ty3 rfl rfl ?_)
    refine g_step_yes (j := 2) (t := 36) rfl rfl rfl rfl (s_val (v_loadl ty3 rfl rfl rfl rfl) rfl rfl ?_)
    refine g_step_yes (j := 2) (t := 36) rfl rfl rfl rfl (s_val (v_eql rfl rfl) rfl rfl ?_)
    refine g_step rfl (s_val (v_pick_t rfl rfl) rfl rfl ?_)
    refine g_nil ?_
    refine g_next hK6 ?_
    refine g_cond rfl (fun hc42 => ?_) (fun hc42 => ?_)
    ·
     try simp only [decide_eq_true_eq, decide_eq_false_iff_not, Bool.not_eq_true', Bool.not_eq_false', Bool.not_eq_eq_eq_not, Bool.not_true, Bool.not_false, Bool.and_eq_true, Bool.or_eq_true, Bool.or_eq_false_iff, beq_iff_eq, beq_eq_false_iff_ne, ne_eq, Int.not_lt, Int.not_le, Decidable.not_not] at hc42
     have hsm : lsame p a = true := by simp [lsame, *]
     refine g_seq (fun K7 hK7 => ?_)
     refine g_region ?_
     refine g_step rfl (s_val (v_assign rfl) rfl rfl ?_)
     refine g_nil ?_
     refine g_next hK7 ?_
     refine g_block ?_
     first | refine g_keep [7] [2, 3, 4, 6] [2, 3, 4, 6] (keep_cons rfl keep_nil) (lkeep_cons rfl (lkeep_cons rfl (lkeep_cons rfl (lkeep_cons rfl lkeep_nil)))) (keep_cons rfl (keep_cons rfl (keep_cons rfl (keep_cons rfl keep_nil)))) rfl ?_ | refine g_keep [7] [2, 3, 4, 6] [2, 3, 4, 6] rfl rfl rfl rfl ?_
     refine g_loop (fun n env L B G => ∃ (i : Nat) (av : AV), i ≤ p.rows.length ∧ n = p.rows.length - i ∧ env = [(7, .int .i64 (i : Int))] ∧ L = [(2, 2, 0), (3, 3, 0), (4, 4, 0), (6, 6, 0)] ∧ B = [(2, (encIP p)), (3, (encIA a)), (4, (.agg [.bool false, .int .i64 0, .nil0])), (6, (.agg [.bool true, .int .i64 a.life, av]))] ∧ Own w0.heap.size 2 H av (((p.rows.take i).filter (fun x => !isUnder a.base x)).map encW) G ∧ (p.rows.take i).any (hasEp a.epoch) = false) (p.rows.length) ⟨0, .nil0, Nat.zero_le _, rfl, rfl, rfl, rfl, ⟨Own.nil .., rfl⟩⟩ (fun n env L B G hI => ?_)
     obtain ⟨i, av, hi, rfl, rfl, rfl, rfl, hown, hany⟩ := hI
     have hfl := List.length_filter_le (fun x => !isUnder a.base x) (p.rows.take i)
     have htl : (p.rows.take i).length ≤ i := List.length_take_le _ _
     refine g_seq (fun K8 hK8 => ?_)
     refine g_seq (fun K9 hK9 => ?_)
     refine g_region ?_
     refine g_step rfl (s_val (v_move rfl) rfl rfl ?_)
     refine g_step rfl (s_fieldAddr ty85 fo85_2 ty70 rfl rfl ?_)
     refine g_step rfl (s_val (v_loadl ty70 rfl rfl rfl rfl) rfl rfl ?_)
     refine g_step rfl (s_val (v_len ty70 rfl (by first | rfl | assumption) (by first | exact List.length_map .. | rfl)) rfl rfl ?_)
     refine g_step rfl (s_val (v_lss rfl rfl) rfl rfl ?_)
     refine g_nil ?_
     refine g_next hK9 ?_
     refine g_cond rfl (fun hc47 => ?_) (fun hc47 => ?_)
     ·
      try simp only [decide_eq_true_eq, decide_eq_false_iff_not, Bool.not_eq_true', Bool.not_eq_false', Bool.not_eq_eq_eq_not, Bool.not_true, Bool.not_false, Bool.and_eq_true, Bool.or_eq_true, Bool.or_eq_false_iff, beq_iff_eq, beq_eq_false_iff_ne, ne_eq, Int.not_lt, Int.not_le, Decidable.not_not] at hc47
      obtain ⟨w, hw⟩ := get_some (l := p.rows) (k := i) (by omega)
      refine g_skip ?_
      refine g_next hK8 ?_
      refine g_seq (fun K10 hK10 => ?_)
      refine g_block ?_
      refine g_seq (fun K11 hK11 => ?_)
      refine g_seq (fun K12 hK12 => ?_)
      refine g_draw (n := 9) (fun j => !([] : List Nat).contains j) rfl rfl ?_
      refine m_takel 0 rfl rfl (by kernel_rfl) (by kernel_rfl) (by kernel_rfl) (fun _ _ _ _ h => h) (vl_fieldAddr ty85 fo85_2 ty70 rfl) rfl rfl ?_
      refine m_take 1 true rfl rfl (by kernel_rfl) (by kernel_rfl) (by kernel_rfl) (fun _ _ _ _ h => h) (v_loadl ty70 rfl rfl rfl rfl) rfl rfl ?_
      refine m_take 2 false rfl rfl (by kernel_rfl) (by kernel_rfl) (by kernel_rfl) (fun _ _ _ _ h => h) (v_move rfl) rfl rfl ?_
      refine m_take 3 false rfl rfl (by kernel_rfl) (by kernel_rfl) (by kernel_rfl) (fun _ _ _ _ h => h) (v_indexAddr ty70 ty69 rfl rfl (by first | rfl | assumption) (by first | rfl | exact (rfl : (0 : Int) = ((0 : Nat) : Int)) | exact (Int.toNat_of_nonneg (by omega)).symm) (by first | assumption | exact map_get (by assumption) | rfl) rfl) rfl rfl ?_
      refine m_take 4 false rfl rfl (by kernel_rfl) (by kernel_rfl) (by kernel_rfl) (fun _ _ _ _ h => h) (by first | exact v_fieldAddr ty69 fo69_0 ty3 rfl | exact v_fieldAddr_box ty69 fo69_0 ty3 rfl) rfl rfl ?_
      refine m_take 5 true rfl rfl (by kernel_rfl) (by kernel_rfl) (by kernel_rfl) (fun _ _ _ _ h => h) (by first | exact v_load ty3 rfl rfl (by first | rfl | assumption) (by first | assumption | exact map_get (by assumption) | rfl) rfl | exact v_load_box ty3 rfl rfl (by assumption) rfl) rfl rfl ?_
      refine m_takel 6 rfl rfl (by kernel_rfl) (by kernel_rfl) (by kernel_rfl) (fun _ _ _ _ h => h) (vl_fieldAddr ty83 fo83_2 ty3 rfl) rfl rfl ?_
      refine m_take 7 true rfl rfl (by kernel_rfl) (by kernel_rfl) (by kernel_rfl) (fun _ _ _ _ h => h) (v_loadl ty3 rfl rfl rfl rfl) rfl rfl ?_
      refine m_take 8 false rfl rfl (by kernel_rfl) (by kernel_rfl) (by kernel_rfl) (fun _ _ _ _ h => h) (v_eql rfl rfl) rfl rfl ?_
      refine m_done (by kernel_rfl) ?_
      refine g_next hK12 ?_
      refine g_cond rfl (fun hc58 => ?_) (fun hc58 => ?_)
      ·
       try simp only [decide_eq_true_eq, decide_eq_false_iff_not, Bool.not_eq_true', Bool.not_eq_false', Bool.not_eq_eq_eq_not, Bool.not_true, Bool.not_false, Bool.and_eq_true, Bool.or_eq_true, Bool.or_eq_false_iff, beq_iff_eq, beq_eq_false_iff_ne, ne_eq, Int.not_lt, Int.not_le, Decidable.not_not] at hc58
       refine g_seq (fun K13 hK13 => ?_)
       refine g_region ?_
       refine g_step rfl (s_val (by first | exact v_loadl_all ty85 rfl rfl rfl rfl rfl | exact v_loadl_part (cs := [_, _, _]) ty85 rfl rfl rfl rfl rfl rfl) rfl rfl ?_)
       refine g_step rfl (s_store_all ty85 rfl rfl rfl rfl rfl rfl ?_)
       refine g_step rfl (s_val (v_assign rfl) rfl rfl ?_)
       refine g_nil ?_
       refine g_next hK13 ?_
       refine g_ret ?_
       refine g_then_ret ?_
       refine g_block_ret ?_
       refine g_then_ret ?_
       refine g_then_ret ?_
       refine g_block_ret ?_
       refine g_then_ret ?_
       refine g_end2 (.inl rfl) Try.results46 (.agg ty85 rfl rfl rfl rfl rfl) (.tmp rfl) [] (ASub.refl _) (by first | exact AHeap.sub_refl _ | exact hown.sub) (fun p hp => by cases hp) ⟨rfl, p, false, rfl, .inl ⟨rfl, rfl, .inr ⟨hsm, List.any_eq_true.2 ⟨w, mem_get hw, by simpa [hasEp] using hc58⟩⟩⟩⟩
      ·
       try simp only [decide_eq_true_eq, decide_eq_false_iff_not, Bool.not_eq_true', Bool.not_eq_false', Bool.not_eq_eq_eq_not, Bool.not_true, Bool.not_false, Bool.and_eq_true, Bool.or_eq_true, Bool.or_eq_false_iff, beq_iff_eq, beq_eq_false_iff_ne, ne_eq, Int.not_lt, Int.not_le, Decidable.not_not] at hc58
       refine g_skip ?_
       refine g_next hK11 ?_
       refine g_seq (fun K14 hK14 => ?_)
       refine g_draw (n := 9) (fun j => !([] : List Nat).contains j) rfl rfl ?_
       refine m_takel 0 rfl rfl (by kernel_rfl) (by kernel_rfl) (by kernel_rfl) (fun _ _ _ _ h => h) (vl_fieldAddr ty85 fo85_2 ty70 rfl) rfl rfl ?_
       refine m_take 1 true rfl rfl (by kernel_rfl) (by kernel_rfl) (by kernel_rfl) (fun _ _ _ _ h => h) (v_loadl ty70 rfl rfl rfl rfl) rfl rfl ?_
       refine m_take 2 false rfl rfl (by kernel_rfl) (by kernel_rfl) (by kernel_rfl) (fun _ _ _ _ h => h) (v_move rfl) rfl rfl ?_
       refine m_take 3 false rfl rfl (by kernel_rfl) (by kernel_rfl) (by kernel_rfl) (fun _ _ _ _ h => h) (v_indexAddr ty70 ty69 rfl rfl (by first | rfl | assumption) (by first | rfl | exact (rfl : (0 : Int) = ((0 : Nat) : Int)) | exact (Int.toNat_of_nonneg (by omega)).symm) (by first | assumption | exact map_get (by assumption) | rfl) rfl) rfl rfl ?_
       refine m_take 4 false rfl rfl (by kernel_rfl) (by kernel_rfl) (by kernel_rfl) (fun _ _ _ _ h => h) (by first | exact v_fieldAddr ty69 fo69_0 ty3 rfl | exact v_fieldAddr_box ty69 fo69_0 ty3 rfl) rfl rfl ?_
       refine m_take 5 true rfl rfl (by kernel_rfl) (by kernel_rfl) (by kernel_rfl) (fun _ _ _ _ h => h) (by first | exact v_load ty3 rfl rfl (by first | rfl | assumption) (by first | assumption | exact map_get (by assumption) | rfl) rfl | exact v_load_box ty3 rfl rfl (by assumption) rfl) rfl rfl ?_
       refine m_takel 6 rfl rfl (by kernel_rfl) (by kernel_rfl) (by kernel_rfl) (fun _ _ _ _ h => h) (vl_fieldAddr ty83 fo83_3 ty3 rfl) rfl rfl ?_
       refine m_take 7 true rfl rfl (by kernel_rfl) (by kernel_rfl) (by kernel_rfl) (fun _ _ _ _ h => h) (v_loadl ty3 rfl rfl rfl rfl) rfl rfl ?_
       refine m_take 8 false rfl rfl (by kernel_rfl) (by kernel_rfl) (by kernel_rfl) (fun _ _ _ _ h => h) (v_geq rfl rfl) rfl rfl ?_
       refine m_done (by kernel_rfl) ?_
       refine g_next hK14 ?_
       refine g_cond rfl (fun hc68 => ?_) (fun hc68 => ?_)
       ·
        try simp only [decide_eq_true_eq, decide_eq_false_iff_not, Bool.not_eq_true', Bool.not_eq_false', Bool.not_eq_eq_eq_not, Bool.not_true, Bool.not_false, Bool.and_eq_true, Bool.or_eq_true, Bool.or_eq_false_iff, beq_iff_eq, beq_eq_false_iff_ne, ne_eq, Int.not_lt, Int.not_le, Decidable.not_not] at hc68
        refine g_draw (n := 11) (fun j => !([8, 10] : List Nat).contains j) rfl rfl ?_
        refine m_takel 0 rfl rfl (by kernel_rfl) (by kernel_rfl) (by kernel_rfl) (fun _ _ _ _ h => h) (vl_fieldAddr ty85 fo85_2 ty70 rfl) rfl rfl ?_
        refine m_take 1 true rfl rfl (by kernel_rfl) (by kernel_rfl) (by kernel_rfl) (fun _ _ _ _ h => h) (v_loadl ty70 rfl rfl rfl rfl) rfl rfl ?_
        refine m_takel 2 rfl rfl (by kernel_rfl) (by kernel_rfl) (by kernel_rfl) (fun _ _ _ _ h => h) (vl_fieldAddr ty85 fo85_2 ty70 rfl) rfl rfl ?_
        refine m_take 4 false rfl rfl (by kernel_rfl) (by kernel_rfl) (by kernel_rfl) (fun _ _ _ _ h => h) (v_move rfl) rfl rfl ?_
        refine m_one 3 (by kernel_rfl) rfl rfl ?_
        refine sm_val (v_loadl ty70 rfl rfl rfl rfl) rfl rfl ?_
        refine m_take 5 false rfl rfl (by kernel_rfl) (by kernel_rfl) (by kernel_rfl) (fun _ _ _ _ h => h) (v_indexAddr ty70 ty69 rfl rfl (by first | rfl | assumption) (by first | rfl | exact (rfl : (0 : Int) = ((0 : Nat) : Int)) | exact (Int.toNat_of_nonneg (by omega)).symm) (by first | assumption | exact map_get (by assumption) | rfl) rfl) rfl rfl ?_
        refine m_one 6 (by kernel_rfl) rfl rfl ?_
        refine sm_val (by first | exact v_load_elt ty69 rfl rfl (by first | rfl | assumption) (by first | assumption | exact map_get (by assumption) | rfl) rfl rfl | exact v_load_box_all ty69 rfl rfl (by assumption) rfl rfl | exact v_load_part (cs := [_, _]) ty69 rfl rfl (by first | rfl | assumption) (by first | assumption | exact map_get (by assumption) | rfl) rfl rfl rfl | exact v_load_box_part (cs := [_, _]) ty69 rfl rfl (by assumption) rfl rfl rfl) rfl rfl ?_
        refine m_one 7 (by kernel_rfl) rfl rfl ?_
        refine sm_lit ty70 ty69 rfl rfl rfl rfl rfl rfl rfl ?_
        refine m_one 8 (by kernel_rfl) rfl rfl ?_
        refine sm_any rfl (s_append (l := (((p.rows.take i).filter (fun x => !isUnder a.base x)).map encW)) (m := ([w].map encW)) ty70 ty69 rfl rfl hown rfl rfl (by refine Even.map _ ?_ _; intro _; rfl) (by intro x hx; obtain ⟨_, _, rfl⟩ := List.mem_map.1 hx; rfl) rfl (by simp; omega) (by simp; omega) ?_)
        intro av77 G77 h77
        obtain ⟨q77, n77, rfl⟩ := own_app h77 (by simp)
        refine m_takel 9 rfl rfl (by kernel_rfl) (by kernel_rfl) (by kernel_rfl) (fun _ _ _ _ h => h) (vl_fieldAddr ty85 fo85_2 ty70 rfl) rfl rfl ?_
        refine m_one 10 (by kernel_rfl) rfl rfl ?_
        refine sm_any rfl (s_store (new := (.agg [.bool true, .int .i64 a.life, (.own q77 2 0 n77)])) ty70 rfl rfl rfl rfl rfl rfl rfl ?_)
        refine m_done (by kernel_rfl) ?_
        refine g_block_normal ?_
        refine g_next hK10 ?_
        first | refine g_keep [7] [2, 3, 4, 6] [2, 3, 4, 6] (keep_cons rfl keep_nil) (lkeep_cons rfl (lkeep_cons rfl (lkeep_cons rfl (lkeep_cons rfl lkeep_nil)))) (keep_cons rfl (keep_cons rfl (keep_cons rfl (keep_cons rfl keep_nil)))) rfl ?_ | refine g_keep [7] [2, 3, 4, 6] [2, 3, 4, 6] rfl rfl rfl rfl ?_
        refine g_region ?_
        refine g_step rfl (s_val (v_move rfl) rfl rfl ?_)
        refine g_step rfl (s_val (v_add rfl rfl (by omega)) rfl rfl ?_)
        refine g_step rfl (s_val (v_assign rfl) rfl rfl ?_)
        refine g_nil ?_
        first | refine g_keep [7] [2, 3, 4, 6] [2, 3, 4, 6] (keep_cons rfl keep_nil) (lkeep_cons rfl (lkeep_cons rfl (lkeep_cons rfl (lkeep_cons rfl lkeep_nil)))) (keep_cons rfl (keep_cons rfl (keep_cons rfl (keep_cons rfl keep_nil)))) rfl ?_ | refine g_keep [7] [2, 3, 4, 6] [2, 3, 4, 6] rfl rfl rfl rfl ?_
        first | exact g_round _ (by omega) ⟨i + 1, (.own q77 2 0 n77), by omega, rfl, rfl, rfl, rfl, ⟨by rw [filter_snoc hw, if_pos (by simpa [isUnder] using hc68), List.map_append]; exact h77, by rw [List.take_add_one, hw, List.any_append, hany]; simpa [hasEp] using hc58⟩⟩ | exact g_round _ (by omega) ⟨i + 1, av, by omega, rfl, rfl, rfl, rfl, ⟨by rw [filter_snoc hw, if_neg (by simpa [isUnder] using hc68), List.append_nil]; exact hown, by rw [List.take_add_one, hw, List.any_append, hany]; simpa [hasEp] using hc58⟩⟩
       ·
        try simp only [decide_eq_true_eq, decide_eq_false_iff_not, Bool.not_eq_true', Bool.not_eq_false', Bool.not_eq_eq_eq_not, Bool.not_true, Bool.not_false, Bool.and_eq_true, Bool.or_eq_true, Bool.or_eq_false_iff, beq_iff_eq, beq_eq_false_iff_ne, ne_eq, Int.not_lt, Int.not_le, Decidable.not_not] at hc68
        refine g_skip ?_
        refine g_block_normal ?_
        refine g_next hK10 ?_
        refine g_region ?_
        refine g_step rfl (s_val (v_move rfl) rfl rfl ?_)
        refine g_step rfl (s_val (v_add rfl rfl (by omega)) rfl rfl ?_)
        refine g_step rfl (s_val (v_assign rfl) rfl rfl ?_)
        refine g_nil ?_
        first | refine g_keep [7] [2, 3, 4, 6] [2, 3, 4, 6] (keep_cons rfl keep_nil) (lkeep_cons rfl (lkeep_cons rfl (lkeep_cons rfl (lkeep_cons rfl lkeep_nil)))) (keep_cons rfl (keep_cons rfl (keep_cons rfl (keep_cons rfl keep_nil)))) rfl ?_ | refine g_keep [7] [2, 3, 4, 6] [2, 3, 4, 6] rfl rfl rfl rfl ?_
        first | exact g_round _ (by omega) ⟨i + 1, (.own q77 2 0 n77), by omega, rfl, rfl, rfl, rfl, ⟨by rw [filter_snoc hw, if_pos (by simpa [isUnder] using hc68), List.map_append]; exact h77, by rw [List.take_add_one, hw, List.any_append, hany]; simpa [hasEp] using hc58⟩⟩ | exact g_round _ (by omega) ⟨i + 1, av, by omega, rfl, rfl, rfl, rfl, ⟨by rw [filter_snoc hw, if_neg (by simpa [isUnder] using hc68), List.append_nil]; exact hown, by rw [List.take_add_one, hw, List.any_append, hany]; simpa [hasEp] using hc58⟩⟩
     ·
      try simp only [decide_eq_true_eq, decide_eq_false_iff_not, Bool.not_eq_true', Bool.not_eq_false', Bool.not_eq_eq_eq_not, Bool.not_true, Bool.not_false, Bool.and_eq_true, Bool.or_eq_true, Bool.or_eq_false_iff, beq_iff_eq, beq_eq_false_iff_ne, ne_eq, Int.not_lt, Int.not_le, Decidable.not_not] at hc47
      obtain rfl : i = p.rows.length := by omega
      rw [List.take_length] at hown hany
      refine g_exit ?_
      refine g_then_exit ?_
      refine g_then_exit ?_
      refine g_block_same ?_
      first | refine g_keep [] [3, 4, 6] [3, 4, 6] keep_nil (lkeep_cons rfl (lkeep_cons rfl (lkeep_cons rfl lkeep_nil))) (keep_cons rfl (keep_cons rfl (keep_cons rfl keep_nil))) rfl ?_ | refine g_keep [] [3, 4, 6] [3, 4, 6] rfl rfl rfl rfl ?_
      first | exact g_has ⟨av, rfl, rfl, rfl, ⟨by rw [lpart, if_pos hsm]; exact hown, hlb, by rintro ⟨_, h9⟩; rw [hany] at h9; cases h9⟩⟩ | exact g_has ⟨.nil0, rfl, rfl, rfl, ⟨by rw [lpart, if_neg (by simp [lsame, *])]; exact Own.nil .., hlb, by rintro ⟨h9, _⟩; simp [lsame, *] at h9⟩⟩
    ·
     try simp only [decide_eq_true_eq, decide_eq_false_iff_not, Bool.not_eq_true', Bool.not_eq_false', Bool.not_eq_eq_eq_not, Bool.not_true, Bool.not_false, Bool.and_eq_true, Bool.or_eq_true, Bool.or_eq_false_iff, beq_iff_eq, beq_eq_false_iff_ne, ne_eq, Int.not_lt, Int.not_le, Decidable.not_not] at hc42
     refine g_skip ?_
     first | refine g_keep [] [3, 4, 6] [3, 4, 6] keep_nil (lkeep_cons rfl (lkeep_cons rfl (lkeep_cons rfl lkeep_nil))) (keep_cons rfl (keep_cons rfl (keep_cons rfl keep_nil))) rfl ?_ | refine g_keep [] [3, 4, 6] [3, 4, 6] rfl rfl rfl rfl ?_
     first | exact g_has ⟨av, rfl, rfl, rfl, ⟨by rw [lpart, if_pos hsm]; exact hown, hlb, by rintro ⟨_, h9⟩; rw [hany] at h9; cases h9⟩⟩ | exact g_has ⟨.nil0, rfl, rfl, rfl, ⟨by rw [lpart, if_neg (by simp [lsame, *])]; exact Own.nil .., hlb, by rintro ⟨h9, _⟩; simp [lsame, *] at h9⟩⟩
   ·
    try simp only [decide_eq_true_eq, decide_eq_false_iff_not, Bool.not_eq_true', Bool.not_eq_false', Bool.not_eq_eq_eq_not, Bool.not_true, Bool.not_false, Bool.and_eq_true, Bool.or_eq_true, Bool.or_eq_false_iff, beq_iff_eq, beq_eq_false_iff_ne, ne_eq, Int.not_lt, Int.not_le, Decidable.not_not] at hg36
    refine g_step_no (j := 2) (t := 36) rfl rfl rfl rfl rfl rfl rfl ?_
    refine g_step_no (j := 2) (t := 36) rfl rfl rfl rfl rfl rfl rfl ?_
    refine g_step_no (j := 2) (t := 36) rfl rfl rfl rfl rfl rfl rfl ?_
    refine g_step_no (j := 2) (t := 36) rfl rfl rfl rfl rfl rfl rfl ?_
    refine g_step_no (j := 2) (t := 36) rfl rfl rfl rfl rfl rfl rfl ?_
    refine g_step rfl (s_val (v_pick_f rfl rfl) rfl rfl ?_)
    refine g_nil ?_
    refine g_next hK6 ?_
    refine g_cond rfl (fun h => by cases h) (fun _ => ?_)
    refine g_skip ?_
    first | refine g_keep [] [3, 4, 6] [3, 4, 6] keep_nil (lkeep_cons rfl (lkeep_cons rfl (lkeep_cons rfl lkeep_nil))) (keep_cons rfl (keep_cons rfl (keep_cons rfl keep_nil))) rfl ?_ | refine g_keep [] [3, 4, 6] [3, 4, 6] rfl rfl rfl rfl ?_
    first | exact g_has ⟨av, rfl, rfl, rfl, ⟨by rw [lpart, if_pos hsm]; exact hown, hlb, by rintro ⟨_, h9⟩; rw [hany] at h9; cases h9⟩⟩ | exact g_has ⟨.nil0, rfl, rfl, rfl, ⟨by rw [lpart, if_neg (by simp [lsame, *])]; exact Own.nil .., hlb, by rintro ⟨h9, _⟩; simp [lsame, *] at h9⟩⟩
  ·
   obtain ⟨av, rfl, rfl, rfl, hown, hlb, hcl⟩ := hI
   have hpl : (lpart p a).length ≤ 4 := by unfold lpart; split; exact Nat.le_trans (List.length_filter_le _ _) hnd.2; simp
   have hll : (lrows p a).length = (lpart p a).length + 1 := by simp [lrows]
   refine g_seq (fun K15 hK15 => ?_)
   refine g_region ?_
   refine g_step rfl (s_fieldAddr ty85 fo85_2 ty70 rfl rfl ?_)
   refine g_step rfl (s_val (v_loadl ty70 rfl rfl rfl rfl) rfl rfl ?_)
   refine g_step rfl (s_fieldAddr ty83 fo83_2 ty3 rfl rfl ?_)
   refine g_step rfl (s_val (v_loadl ty3 rfl rfl rfl rfl) rfl rfl ?_)
   refine g_step rfl (s_fieldAddr ty83 fo83_4 ty64 rfl rfl ?_)
   refine g_step rfl (s_val (v_loadl ty64 rfl rfl rfl rfl) rfl rfl ?_)
   refine g_step rfl (s_val (v_build (vs := [(0, _), (1, _)]) (zs := [(.int .i64 0), .nil0]) (cells := [_, _]) ty69 pl69 rfl rfl rfl) rfl rfl ?_)
   refine g_step rfl (s_lit ty70 ty69 rfl rfl rfl rfl rfl rfl rfl ?_)
   refine g_step rfl (s_append (l := ((lpart p a).map encW)) (m := ([lrow a].map encW)) ty70 ty69 rfl rfl hown rfl rfl (by refine Even.map _ ?_ _; intro _; rfl) (by intro x hx; obtain ⟨_, _, rfl⟩ := List.mem_map.1 hx; rfl) rfl (by simp; omega) (by simp; omega) ?_)
   intro av87 G87 h87
   rw [← List.map_append] at h87
   refine g_freeze 87 rfl h87 ?_
   refine g_step rfl (s_fieldAddr ty85 fo85_2 ty70 rfl rfl ?_)
   refine g_step rfl (s_store (new := (.agg [.bool true, .int .i64 a.life, .imm ((lrows p a).map encW)])) ty70 rfl rfl rfl rfl rfl rfl rfl ?_)
   refine g_nil ?_
   refine g_next hK15 ?_
   refine g_seq (fun K16 hK16 => ?_)
   refine g_seq (fun K17 hK17 => ?_)
   refine g_region ?_
   refine g_step rfl (s_fieldAddr ty85 fo85_2 ty70 rfl rfl ?_)
   refine g_step rfl (s_val (v_loadl ty70 rfl rfl rfl rfl) rfl rfl ?_)
   refine g_step rfl (s_val (v_len ty70 rfl (by first | rfl | assumption) (show _ = (lrows p a).length by rw [List.length_map])) rfl rfl ?_)
   refine g_step rfl (s_val (v_leq rfl rfl) rfl rfl ?_)
   refine g_nil ?_
   refine g_next hK17 ?_
   refine g_cond rfl (fun hc92 => ?_) (fun hc92 => ?_)
   ·
    try simp only [decide_eq_true_eq, decide_eq_false_iff_not, Bool.not_eq_true', Bool.not_eq_false', Bool.not_eq_eq_eq_not, Bool.not_true, Bool.not_false, Bool.and_eq_true, Bool.or_eq_true, Bool.or_eq_false_iff, beq_iff_eq, beq_eq_false_iff_ne, ne_eq, Int.not_lt, Int.not_le, Decidable.not_not] at hc92
    refine g_seq (fun K18 hK18 => ?_)
    refine g_region ?_
    refine g_step rfl (s_val (by first | exact v_loadl_all ty85 rfl rfl rfl rfl rfl | exact v_loadl_part (cs := [_, _, _]) ty85 rfl rfl rfl rfl rfl rfl) rfl rfl ?_)
    refine g_step rfl (s_store_all ty85 rfl rfl rfl rfl rfl rfl ?_)
    refine g_step rfl (s_val (v_assign rfl) rfl rfl ?_)
    refine g_nil ?_
    refine g_next hK18 ?_
    refine g_ret ?_
    refine g_then_ret ?_
    refine g_end2 (.inl rfl) Try.results46 (.agg ty85 rfl rfl rfl rfl rfl) (.tmp rfl) [] (ASub.refl _) (AHeap.sub_refl _) (fun p hp => by cases hp) ⟨rfl, ⟨true, a.life, (lrows p a)⟩, true, rfl, .inr ⟨rfl, hlb, hcl, rfl, rfl, .inl ⟨by omega, rfl⟩⟩⟩
   ·
    try simp only [decide_eq_true_eq, decide_eq_false_iff_not, Bool.not_eq_true', Bool.not_eq_false', Bool.not_eq_eq_eq_not, Bool.not_true, Bool.not_false, Bool.and_eq_true, Bool.or_eq_true, Bool.or_eq_false_iff, beq_iff_eq, beq_eq_false_iff_ne, ne_eq, Int.not_lt, Int.not_le, Decidable.not_not] at hc92
    refine g_skip ?_
    refine g_next hK16 ?_
    refine g_seq (fun K19 hK19 => ?_)
    refine g_region ?_
    refine g_step rfl (s_val (v_assign rfl) rfl rfl ?_)
    refine g_nil ?_
    refine g_next hK19 ?_
    refine g_seq (fun K20 hK20 => ?_)
    refine g_seq (fun K21 hK21 => ?_)
    refine g_region ?_
    refine g_step rfl (s_val (v_assign rfl) rfl rfl ?_)
    refine g_nil ?_
    refine g_next hK21 ?_
    refine g_block ?_
    first | refine g_keep [8, 9] [3, 4, 6] [3, 4, 6] (keep_cons rfl (keep_cons rfl keep_nil)) (lkeep_cons rfl (lkeep_cons rfl (lkeep_cons rfl lkeep_nil))) (keep_cons rfl (keep_cons rfl (keep_cons rfl keep_nil))) rfl ?_ | refine g_keep [8, 9] [3, 4, 6] [3, 4, 6] rfl rfl rfl rfl ?_
    refine g_loop (fun n env L B G => ∃ (i : Nat) (u : Int), i ≤ (lrows p a).length ∧ n = (lrows p a).length - i ∧ env = [(8, .int .i64 u), (9, .int .i64 (i : Int))] ∧ L = [(3, 3, 0), (4, 4, 0), (6, 6, 0)] ∧ B = [(3, (encIA a)), (4, (.agg [.bool false, .int .i64 0, .nil0])), (6, (encIP ⟨true, a.life, (lrows p a)⟩))] ∧ H = G ∧ LeastU (lrows p a) a.base i u) ((lrows p a).length) ⟨0, -1, Nat.zero_le _, rfl, rfl, rfl, rfl, rfl, LeastU.zero _ _⟩ (fun n env L B G hI => ?_)
    obtain ⟨i, u, hi, rfl, rfl, rfl, rfl, rfl, hu⟩ := hI
    refine g_seq (fun K22 hK22 => ?_)
    refine g_seq (fun K23 hK23 => ?_)
    refine g_region ?_
    refine g_step rfl (s_val (v_move rfl) rfl rfl ?_)
    refine g_step rfl (s_fieldAddr ty85 fo85_2 ty70 rfl rfl ?_)
    refine g_step rfl (s_val (v_loadl ty70 rfl rfl rfl rfl) rfl rfl ?_)
    refine g_step rfl (s_val (v_len ty70 rfl (by first | rfl | assumption) (by first | exact List.length_map .. | rfl)) rfl rfl ?_)
    refine g_step rfl (s_val (v_lss rfl rfl) rfl rfl ?_)
    refine g_nil ?_
    refine g_next hK23 ?_
    refine g_cond rfl (fun hc98 => ?_) (fun hc98 => ?_)
    ·
     try simp only [decide_eq_true_eq, decide_eq_false_iff_not, Bool.not_eq_true', Bool.not_eq_false', Bool.not_eq_eq_eq_not, Bool.not_true, Bool.not_false, Bool.and_eq_true, Bool.or_eq_true, Bool.or_eq_false_iff, beq_iff_eq, beq_eq_false_iff_ne, ne_eq, Int.not_lt, Int.not_le, Decidable.not_not] at hc98
     obtain ⟨w, hw⟩ := get_some (l := (lrows p a)) (k := i) (by omega)
     refine g_skip ?_
     refine g_next hK22 ?_
     refine g_seq (fun K24 hK24 => ?_)
     refine g_block ?_
     refine g_seq (fun K25 hK25 => ?_)
     refine g_draw (n := 28) (fun j => !([] : List Nat).contains j) rfl rfl ?_
     refine m_takel 0 rfl rfl (by kernel_rfl) (by kernel_rfl) (by kernel_rfl) (fun _ _ _ _ h => h) (vl_fieldAddr ty85 fo85_2 ty70 rfl) rfl rfl ?_
     refine m_take 1 true rfl rfl (by kernel_rfl) (by kernel_rfl) (by kernel_rfl) (fun _ _ _ _ h => h) (v_loadl ty70 rfl rfl rfl rfl) rfl rfl ?_
     refine m_take 2 false rfl rfl (by kernel_rfl) (by kernel_rfl) (by kernel_rfl) (fun _ _ _ _ h => h) (v_move rfl) rfl rfl ?_
     refine m_take 3 false rfl rfl (by kernel_rfl) (by kernel_rfl) (by kernel_rfl) (fun _ _ _ _ h => h) (v_indexAddr ty70 ty69 rfl rfl (by first | rfl | assumption) (by first | rfl | exact (rfl : (0 : Int) = ((0 : Nat) : Int)) | exact (Int.toNat_of_nonneg (by omega)).symm) (by first | assumption | exact map_get (by assumption) | rfl) rfl) rfl rfl ?_
     refine m_take 4 false rfl rfl (by kernel_rfl) (by kernel_rfl) (by kernel_rfl) (fun _ _ _ _ h => h) (by first | exact v_fieldAddr ty69 fo69_0 ty3 rfl | exact v_fieldAddr_box ty69 fo69_0 ty3 rfl) rfl rfl ?_
     refine m_take 5 true rfl rfl (by kernel_rfl) (by kernel_rfl) (by kernel_rfl) (fun _ _ _ _ h => h) (by first | exact v_load ty3 rfl rfl (by first | rfl | assumption) (by first | assumption | exact map_get (by assumption) | rfl) rfl | exact v_load_box ty3 rfl rfl (by assumption) rfl) rfl rfl ?_
     refine m_takel 6 rfl rfl (by kernel_rfl) (by kernel_rfl) (by kernel_rfl) (fun _ _ _ _ h => h) (vl_fieldAddr ty83 fo83_3 ty3 rfl) rfl rfl ?_
     refine m_take 7 true rfl rfl (by kernel_rfl) (by kernel_rfl) (by kernel_rfl) (fun _ _ _ _ h => h) (v_loadl ty3 rfl rfl rfl rfl) rfl rfl ?_
     refine m_take 8 false rfl rfl (by kernel_rfl) (by kernel_rfl) (by kernel_rfl) (fun _ _ _ _ h => h) (v_neq rfl rfl) rfl rfl ?_
     refine m_take 9 false rfl rfl (by kernel_rfl) (by kernel_rfl) (by kernel_rfl) (fun _ _ _ _ h => h) (v_move rfl) rfl rfl ?_
     refine m_split 110 rfl (fun hg110 => ?_) (fun hg110 => ?_)
     ·
      try simp only [decide_eq_true_eq, decide_eq_false_iff_not, Bool.not_eq_true', Bool.not_eq_false', Bool.not_eq_eq_eq_not, Bool.not_true, Bool.not_false, Bool.and_eq_true, Bool.or_eq_true, Bool.or_eq_false_iff, beq_iff_eq, beq_eq_false_iff_ne, ne_eq, Int.not_lt, Int.not_le, Decidable.not_not] at hg110
      refine m_take_yes (j := 9) (t := 110) 10 false rfl rfl rfl rfl rfl (by kernel_rfl) (by kernel_rfl) (by kernel_rfl) (fun _ _ _ _ h => h) (v_move rfl) rfl rfl ?_
      refine m_take_yes (j := 9) (t := 110) 11 false rfl rfl rfl rfl rfl (by kernel_rfl) (by kernel_rfl) (by kernel_rfl) (fun _ _ _ _ h => h) (v_lss rfl rfl) rfl rfl ?_
      refine m_take_yes (j := 9) (t := 110) 12 false rfl rfl rfl rfl rfl (by kernel_rfl) (by kernel_rfl) (by kernel_rfl) (fun _ _ _ _ h => h) (v_move rfl) rfl rfl ?_
      refine m_split 113 rfl (fun hg113 => ?_) (fun hg113 => ?_)
      ·
       try simp only [decide_eq_true_eq, decide_eq_false_iff_not, Bool.not_eq_true', Bool.not_eq_false', Bool.not_eq_eq_eq_not, Bool.not_true, Bool.not_false, Bool.and_eq_true, Bool.or_eq_true, Bool.or_eq_false_iff, beq_iff_eq, beq_eq_false_iff_ne, ne_eq, Int.not_lt, Int.not_le, Decidable.not_not] at hg113
       refine m_take_no (j := 12) (t := 113) 13 rfl rfl rfl rfl rfl rfl (by kernel_rfl) (by kernel_rfl) (by kernel_rfl) (fun _ _ _ _ h => h) rfl rfl ?_
       refine m_take_no (j := 12) (t := 113) 14 rfl rfl rfl rfl rfl rfl (by kernel_rfl) (by kernel_rfl) (by kernel_rfl) (fun _ _ _ _ h => h) rfl rfl ?_
       refine m_take_no (j := 12) (t := 113) 15 rfl rfl rfl rfl rfl rfl (by kernel_rfl) (by kernel_rfl) (by kernel_rfl) (fun _ _ _ _ h => h) rfl rfl ?_
       refine m_take_no (j := 12) (t := 113) 16 rfl rfl rfl rfl rfl rfl (by kernel_rfl) (by kernel_rfl) (by kernel_rfl) (fun _ _ _ _ h => h) rfl rfl ?_
       refine m_take_no (j := 12) (t := 113) 17 rfl rfl rfl rfl rfl rfl (by kernel_rfl) (by kernel_rfl) (by kernel_rfl) (fun _ _ _ _ h => h) rfl rfl ?_
       refine m_take_no (j := 12) (t := 113) 18 rfl rfl rfl rfl rfl rfl (by kernel_rfl) (by kernel_rfl) (by kernel_rfl) (fun _ _ _ _ h => h) rfl rfl ?_
       refine m_take_no (j := 12) (t := 113) 19 rfl rfl rfl rfl rfl rfl (by kernel_rfl) (by kernel_rfl) (by kernel_rfl) (fun _ _ _ _ h => h) rfl rfl ?_
       refine m_take_no (j := 12) (t := 113) 20 rfl rfl rfl rfl rfl rfl (by kernel_rfl) (by kernel_rfl) (by kernel_rfl) (fun _ _ _ _ h => h) rfl rfl ?_
       refine m_take_no (j := 12) (t := 113) 21 rfl rfl rfl rfl rfl rfl (by kernel_rfl) (by kernel_rfl) (by kernel_rfl) (fun _ _ _ _ h => h) rfl rfl ?_
       refine m_take_no (j := 12) (t := 113) 22 rfl rfl rfl rfl rfl rfl (by kernel_rfl) (by kernel_rfl) (by kernel_rfl) (fun _ _ _ _ h => h) rfl rfl ?_
       refine m_take_no (j := 12) (t := 113) 23 rfl rfl rfl rfl rfl rfl (by kernel_rfl) (by kernel_rfl) (by kernel_rfl) (fun _ _ _ _ h => h) rfl rfl ?_
       refine m_take_no (j := 12) (t := 113) 24 rfl rfl rfl rfl rfl rfl (by kernel_rfl) (by kernel_rfl) (by kernel_rfl) (fun _ _ _ _ h => h) rfl rfl ?_
       refine m_take_no (j := 12) (t := 113) 25 rfl rfl rfl rfl rfl rfl (by kernel_rfl) (by kernel_rfl) (by kernel_rfl) (fun _ _ _ _ h => h) rfl rfl ?_
       refine m_take_yes (j := 9) (t := 110) 26 false rfl rfl rfl rfl rfl (by kernel_rfl) (by kernel_rfl) (by kernel_rfl) (fun _ _ _ _ h => h) (v_pick_t rfl rfl) rfl rfl ?_
       refine m_take 27 false rfl rfl (by kernel_rfl) (by kernel_rfl) (by kernel_rfl) (fun _ _ _ _ h => h) (v_pick_t rfl rfl) rfl rfl ?_
       refine m_done (by kernel_rfl) ?_
       refine g_next hK25 ?_
       first | refine g_keep [8, 9, 128] [3, 4, 6] [3, 4, 6] (keep_cons rfl (keep_cons rfl (keep_cons rfl keep_nil))) (lkeep_cons rfl (lkeep_cons rfl (lkeep_cons rfl lkeep_nil))) (keep_cons rfl (keep_cons rfl (keep_cons rfl keep_nil))) rfl ?_ | refine g_keep [8, 9, 128] [3, 4, 6] [3, 4, 6] rfl rfl rfl rfl ?_
       refine g_cond rfl (fun _ => ?_) (fun h => by cases h)
       refine g_region ?_
       refine g_step rfl (s_val (v_move rfl) rfl rfl ?_)
       refine g_step rfl (s_val (v_assign rfl) rfl rfl ?_)
       refine g_nil ?_
       refine g_block_normal ?_
       refine g_next hK24 ?_
       refine g_region ?_
       refine g_step rfl (s_val (v_move rfl) rfl rfl ?_)
       refine g_step rfl (s_val (v_add rfl rfl (by omega)) rfl rfl ?_)
       refine g_step rfl (s_val (v_assign rfl) rfl rfl ?_)
       refine g_nil ?_
       first | refine g_keep [8, 9] [3, 4, 6] [3, 4, 6] (keep_cons rfl (keep_cons rfl keep_nil)) (lkeep_cons rfl (lkeep_cons rfl (lkeep_cons rfl lkeep_nil))) (keep_cons rfl (keep_cons rfl (keep_cons rfl keep_nil))) rfl ?_ | refine g_keep [8, 9] [3, 4, 6] [3, 4, 6] rfl rfl rfl rfl ?_
       first | exact g_round _ (by omega) ⟨i + 1, (i : Int), by omega, rfl, rfl, rfl, rfl, rfl, LeastU.hit hu hw hg110 (by first | exact .inl hg113 | exact .inr ⟨i2, w2, hui, hwi, hc128⟩)⟩ | exact g_round _ (by omega) ⟨i + 1, u, by omega, rfl, rfl, rfl, rfl, rfl, LeastU.miss hu hw (by first | exact .inl hg110 | exact .inr ⟨i2, w2, hui, hwi, by omega⟩)⟩
      ·
       try simp only [decide_eq_true_eq, decide_eq_false_iff_not, Bool.not_eq_true', Bool.not_eq_false', Bool.not_eq_eq_eq_not, Bool.not_true, Bool.not_false, Bool.and_eq_true, Bool.or_eq_true, Bool.or_eq_false_iff, beq_iff_eq, beq_eq_false_iff_ne, ne_eq, Int.not_lt, Int.not_le, Decidable.not_not] at hg113
       obtain ⟨i2, w2, hui, hwi⟩ := least_get hu (by omega)
       refine m_takel_yes (j := 12) (t := 113) 13 rfl rfl rfl rfl rfl (by kernel_rfl) (by kernel_rfl) (by kernel_rfl) (fun _ _ _ _ h => h) (vl_fieldAddr ty85 fo85_2 ty70 rfl) rfl rfl ?_
       refine m_take_yes (j := 12) (t := 113) 14 true rfl rfl rfl rfl rfl (by kernel_rfl) (by kernel_rfl) (by kernel_rfl) (fun _ _ _ _ h => h) (v_loadl ty70 rfl rfl rfl rfl) rfl rfl ?_
       refine m_take_yes (j := 12) (t := 113) 15 false rfl rfl rfl rfl rfl (by kernel_rfl) (by kernel_rfl) (by kernel_rfl) (fun _ _ _ _ h => h) (v_move rfl) rfl rfl ?_
       refine m_take_yes (j := 12) (t := 113) 16 false rfl rfl rfl rfl rfl (by kernel_rfl) (by kernel_rfl) (by kernel_rfl) (fun _ _ _ _ h => h) (v_indexAddr ty70 ty69 rfl rfl (by first | rfl | assumption) (by first | rfl | exact (rfl : (0 : Int) = ((0 : Nat) : Int)) | exact (Int.toNat_of_nonneg (by omega)).symm) (map_get hw) rfl) rfl rfl ?_
       refine m_take_yes (j := 12) (t := 113) 17 false rfl rfl rfl rfl rfl (by kernel_rfl) (by kernel_rfl) (by kernel_rfl) (fun _ _ _ _ h => h) (by first | exact v_fieldAddr ty69 fo69_0 ty3 rfl | exact v_fieldAddr_box ty69 fo69_0 ty3 rfl) rfl rfl ?_
       refine m_take_yes (j := 12) (t := 113) 18 true rfl rfl rfl rfl rfl (by kernel_rfl) (by kernel_rfl) (by kernel_rfl) (fun _ _ _ _ h => h) (by first | exact v_load ty3 rfl rfl (by first | rfl | assumption) (map_get hw) rfl | exact v_load_box ty3 rfl rfl (by assumption) rfl) rfl rfl ?_
       refine m_takel_yes (j := 12) (t := 113) 19 rfl rfl rfl rfl rfl (by kernel_rfl) (by kernel_rfl) (by kernel_rfl) (fun _ _ _ _ h => h) (vl_fieldAddr ty85 fo85_2 ty70 rfl) rfl rfl ?_
       refine m_take_yes (j := 12) (t := 113) 20 true rfl rfl rfl rfl rfl (by kernel_rfl) (by kernel_rfl) (by kernel_rfl) (fun _ _ _ _ h => h) (v_loadl ty70 rfl rfl rfl rfl) rfl rfl ?_
       refine m_take_yes (j := 12) (t := 113) 21 false rfl rfl rfl rfl rfl (by kernel_rfl) (by kernel_rfl) (by kernel_rfl) (fun _ _ _ _ h => h) (v_move rfl) rfl rfl ?_
       refine m_take_yes (j := 12) (t := 113) 22 false rfl rfl rfl rfl rfl (by kernel_rfl) (by kernel_rfl) (by kernel_rfl) (fun _ _ _ _ h => h) (v_indexAddr ty70 ty69 rfl rfl (by first | rfl | assumption) hui (map_get hwi) rfl) rfl rfl ?_
       refine m_take_yes (j := 12) (t := 113) 23 false rfl rfl rfl rfl rfl (by kernel_rfl) (by kernel_rfl) (by kernel_rfl) (fun _ _ _ _ h => h) (by first | exact v_fieldAddr ty69 fo69_0 ty3 rfl | exact v_fieldAddr_box ty69 fo69_0 ty3 rfl) rfl rfl ?_
       refine m_take_yes (j := 12) (t := 113) 24 true rfl rfl rfl rfl rfl (by kernel_rfl) (by kernel_rfl) (by kernel_rfl) (fun _ _ _ _ h => h) (by first | exact v_load ty3 rfl rfl (by first | rfl | assumption) (map_get hwi) rfl | exact v_load_box ty3 rfl rfl (by assumption) rfl) rfl rfl ?_
       refine m_take_yes (j := 12) (t := 113) 25 false rfl rfl rfl rfl rfl (by kernel_rfl) (by kernel_rfl) (by kernel_rfl) (fun _ _ _ _ h => h) (v_lss rfl rfl) rfl rfl ?_
       refine m_take_yes (j := 9) (t := 110) 26 false rfl rfl rfl rfl rfl (by kernel_rfl) (by kernel_rfl) (by kernel_rfl) (fun _ _ _ _ h => h) (v_pick_f rfl rfl) rfl rfl ?_
       refine m_take 27 false rfl rfl (by kernel_rfl) (by kernel_rfl) (by kernel_rfl) (fun _ _ _ _ h => h) (v_pick_t rfl rfl) rfl rfl ?_
       refine m_done (by kernel_rfl) ?_
       refine g_next hK25 ?_
       first | refine g_keep [8, 9, 128] [3, 4, 6] [3, 4, 6] (keep_cons rfl (keep_cons rfl (keep_cons rfl keep_nil))) (lkeep_cons rfl (lkeep_cons rfl (lkeep_cons rfl lkeep_nil))) (keep_cons rfl (keep_cons rfl (keep_cons rfl keep_nil))) rfl ?_ | refine g_keep [8, 9, 128] [3, 4, 6] [3, 4, 6] rfl rfl rfl rfl ?_
       refine g_cond rfl (fun hc128 => ?_) (fun hc128 => ?_)
       ·
        try simp only [decide_eq_true_eq, decide_eq_false_iff_not, Bool.not_eq_true', Bool.not_eq_false', Bool.not_eq_eq_eq_not, Bool.not_true, Bool.not_false, Bool.and_eq_true, Bool.or_eq_true, Bool.or_eq_false_iff, beq_iff_eq, beq_eq_false_iff_ne, ne_eq, Int.not_lt, Int.not_le, Decidable.not_not] at hc128
        refine g_region ?_
        refine g_step rfl (s_val (v_move rfl) rfl rfl ?_)
        refine g_step rfl (s_val (v_assign rfl) rfl rfl ?_)
        refine g_nil ?_
        refine g_block_normal ?_
        refine g_next hK24 ?_
        refine g_region ?_
        refine g_step rfl (s_val (v_move rfl) rfl rfl ?_)
        refine g_step rfl (s_val (v_add rfl rfl (by omega)) rfl rfl ?_)
        refine g_step rfl (s_val (v_assign rfl) rfl rfl ?_)
        refine g_nil ?_
        first | refine g_keep [8, 9] [3, 4, 6] [3, 4, 6] (keep_cons rfl (keep_cons rfl keep_nil)) (lkeep_cons rfl (lkeep_cons rfl (lkeep_cons rfl lkeep_nil))) (keep_cons rfl (keep_cons rfl (keep_cons rfl keep_nil))) rfl ?_ | refine g_keep [8, 9] [3, 4, 6] [3, 4, 6] rfl rfl rfl rfl ?_
        first | exact g_round _ (by omega) ⟨i + 1, (i : Int), by omega, rfl, rfl, rfl, rfl, rfl, LeastU.hit hu hw hg110 (by first | exact .inl hg113 | exact .inr ⟨i2, w2, hui, hwi, hc128⟩)⟩ | exact g_round _ (by omega) ⟨i + 1, u, by omega, rfl, rfl, rfl, rfl, rfl, LeastU.miss hu hw (by first | exact .inl hg110 | exact .inr ⟨i2, w2, hui, hwi, by omega⟩)⟩
       ·
        try simp only [decide_eq_true_eq, decide_eq_false_iff_not, Bool.not_eq_true', Bool.not_eq_false', Bool.not_eq_eq_eq_not, Bool.not_true, Bool.not_false, Bool.and_eq_true, Bool.or_eq_true, Bool.or_eq_false_iff, beq_iff_eq, beq_eq_false_iff_ne, ne_eq, Int.not_lt, Int.not_le, Decidable.not_not] at hc128
        refine g_skip ?_
        refine g_block_normal ?_
        refine g_next hK24 ?_
        refine g_region ?_
        refine g_step rfl (s_val (v_move rfl) rfl rfl ?_)
        refine g_step rfl (s_val (v_add rfl rfl (by omega)) rfl rfl ?_)
        refine g_step rfl (s_val (v_assign rfl) rfl rfl ?_)
        refine g_nil ?_
        first | refine g_keep [8, 9] [3, 4, 6] [3, 4, 6] (keep_cons rfl (keep_cons rfl keep_nil)) (lkeep_cons rfl (lkeep_cons rfl (lkeep_cons rfl lkeep_nil))) (keep_cons rfl (keep_cons rfl (keep_cons rfl keep_nil))) rfl ?_ | refine g_keep [8, 9] [3, 4, 6] [3, 4, 6] rfl rfl rfl rfl ?_
        first | exact g_round _ (by omega) ⟨i + 1, (i : Int), by omega, rfl, rfl, rfl, rfl, rfl, LeastU.hit hu hw hg110 (by first | exact .inl hg113 | exact .inr ⟨i2, w2, hui, hwi, hc128⟩)⟩ | exact g_round _ (by omega) ⟨i + 1, u, by omega, rfl, rfl, rfl, rfl, rfl, LeastU.miss hu hw (by first | exact .inl hg110 | exact .inr ⟨i2, w2, hui, hwi, by omega⟩)⟩
     ·
      try simp only [decide_eq_true_eq, decide_eq_false_iff_not, Bool.not_eq_true', Bool.not_eq_false', Bool.not_eq_eq_eq_not, Bool.not_true, Bool.not_false, Bool.and_eq_true, Bool.or_eq_true, Bool.or_eq_false_iff, beq_iff_eq, beq_eq_false_iff_ne, ne_eq, Int.not_lt, Int.not_le, Decidable.not_not] at hg110
      refine m_take_no (j := 9) (t := 110) 10 rfl rfl rfl rfl rfl rfl (by kernel_rfl) (by kernel_rfl) (by kernel_rfl) (fun _ _ _ _ h => h) rfl rfl ?_
      refine m_take_no (j := 9) (t := 110) 11 rfl rfl rfl rfl rfl rfl (by kernel_rfl) (by kernel_rfl) (by kernel_rfl) (fun _ _ _ _ h => h) rfl rfl ?_
      refine m_take_no (j := 9) (t := 110) 12 rfl rfl rfl rfl rfl rfl (by kernel_rfl) (by kernel_rfl) (by kernel_rfl) (fun _ _ _ _ h => h) rfl rfl ?_
      refine m_take_und (j := 12) (t := 113) 13 rfl rfl rfl rfl rfl (by kernel_rfl) (by kernel_rfl) (by kernel_rfl) (fun _ _ _ _ h => h) rfl rfl ?_
      refine m_take_und (j := 12) (t := 113) 14 rfl rfl rfl rfl rfl (by kernel_rfl) (by kernel_rfl) (by kernel_rfl) (fun _ _ _ _ h => h) rfl rfl ?_
      refine m_take_und (j := 12) (t := 113) 15 rfl rfl rfl rfl rfl (by kernel_rfl) (by kernel_rfl) (by kernel_rfl) (fun _ _ _ _ h => h) rfl rfl ?_
      refine m_take_und (j := 12) (t := 113) 16 rfl rfl rfl rfl rfl (by kernel_rfl) (by kernel_rfl) (by kernel_rfl) (fun _ _ _ _ h => h) rfl rfl ?_
      refine m_take_und (j := 12) (t := 113) 17 rfl rfl rfl rfl rfl (by kernel_rfl) (by kernel_rfl) (by kernel_rfl) (fun _ _ _ _ h => h) rfl rfl ?_
      refine m_take_und (j := 12) (t := 113) 18 rfl rfl rfl rfl rfl (by kernel_rfl) (by kernel_rfl) (by kernel_rfl) (fun _ _ _ _ h => h) rfl rfl ?_
      refine m_take_und (j := 12) (t := 113) 19 rfl rfl rfl rfl rfl (by kernel_rfl) (by kernel_rfl) (by kernel_rfl) (fun _ _ _ _ h => h) rfl rfl ?_
      refine m_take_und (j := 12) (t := 113) 20 rfl rfl rfl rfl rfl (by kernel_rfl) (by kernel_rfl) (by kernel_rfl) (fun _ _ _ _ h => h) rfl rfl ?_
      refine m_take_und (j := 12) (t := 113) 21 rfl rfl rfl rfl rfl (by kernel_rfl) (by kernel_rfl) (by kernel_rfl) (fun _ _ _ _ h => h) rfl rfl ?_
      refine m_take_und (j := 12) (t := 113) 22 rfl rfl rfl rfl rfl (by kernel_rfl) (by kernel_rfl) (by kernel_rfl) (fun _ _ _ _ h => h) rfl rfl ?_
      refine m_take_und (j := 12) (t := 113) 23 rfl rfl rfl rfl rfl (by kernel_rfl) (by kernel_rfl) (by kernel_rfl) (fun _ _ _ _ h => h) rfl rfl ?_
      refine m_take_und (j := 12) (t := 113) 24 rfl rfl rfl rfl rfl (by kernel_rfl) (by kernel_rfl) (by kernel_rfl) (fun _ _ _ _ h => h) rfl rfl ?_
      refine m_take_und (j := 12) (t := 113) 25 rfl rfl rfl rfl rfl (by kernel_rfl) (by kernel_rfl) (by kernel_rfl) (fun _ _ _ _ h => h) rfl rfl ?_
      refine m_take_no (j := 9) (t := 110) 26 rfl rfl rfl rfl rfl rfl (by kernel_rfl) (by kernel_rfl) (by kernel_rfl) (fun _ _ _ _ h => h) rfl rfl ?_
      refine m_take 27 false rfl rfl (by kernel_rfl) (by kernel_rfl) (by kernel_rfl) (fun _ _ _ _ h => h) (v_pick_f rfl rfl) rfl rfl ?_
      refine m_done (by kernel_rfl) ?_
      refine g_next hK25 ?_
      first | refine g_keep [8, 9, 128] [3, 4, 6] [3, 4, 6] (keep_cons rfl (keep_cons rfl (keep_cons rfl keep_nil))) (lkeep_cons rfl (lkeep_cons rfl (lkeep_cons rfl lkeep_nil))) (keep_cons rfl (keep_cons rfl (keep_cons rfl keep_nil))) rfl ?_ | refine g_keep [8, 9, 128] [3, 4, 6] [3, 4, 6] rfl rfl rfl rfl ?_
      refine g_cond rfl (fun h => by cases h) (fun _ => ?_)
      refine g_skip ?_
      refine g_block_normal ?_
      refine g_next hK24 ?_
      refine g_region ?_
      refine g_step rfl (s_val (v_move rfl) rfl rfl ?_)
      refine g_step rfl (s_val (v_add rfl rfl (by omega)) rfl rfl ?_)
      refine g_step rfl (s_val (v_assign rfl) rfl rfl ?_)
      refine g_nil ?_
      first | refine g_keep [8, 9] [3, 4, 6] [3, 4, 6] (keep_cons rfl (keep_cons rfl keep_nil)) (lkeep_cons rfl (lkeep_cons rfl (lkeep_cons rfl lkeep_nil))) (keep_cons rfl (keep_cons rfl (keep_cons rfl keep_nil))) rfl ?_ | refine g_keep [8, 9] [3, 4, 6] [3, 4, 6] rfl rfl rfl rfl ?_
      first | exact g_round _ (by omega) ⟨i + 1, (i : Int), by omega, rfl, rfl, rfl, rfl, rfl, LeastU.hit hu hw hg110 (by first | exact .inl hg113 | exact .inr ⟨i2, w2, hui, hwi, hc128⟩)⟩ | exact g_round _ (by omega) ⟨i + 1, u, by omega, rfl, rfl, rfl, rfl, rfl, LeastU.miss hu hw (by first | exact .inl hg110 | exact .inr ⟨i2, w2, hui, hwi, by omega⟩)⟩
    ·
     try simp only [decide_eq_true_eq, decide_eq_false_iff_not, Bool.not_eq_true', Bool.not_eq_false', Bool.not_eq_eq_eq_not, Bool.not_true, Bool.not_false, Bool.and_eq_true, Bool.or_eq_true, Bool.or_eq_false_iff, beq_iff_eq, beq_eq_false_iff_ne, ne_eq, Int.not_lt, Int.not_le, Decidable.not_not] at hc98
     obtain rfl : i = (lrows p a).length := by omega
     obtain ⟨i, w, rfl, hw, hne, hmin⟩ := hu.done (lrows_nodup hnd.1 hcl) (by omega)
     have hii := (List.getElem?_eq_some_iff.1 hw).1
     refine g_exit ?_
     refine g_then_exit ?_
     refine g_then_exit ?_
     refine g_block_same ?_
     refine g_next hK20 ?_
     refine g_seq (fun K26 hK26 => ?_)
     refine g_draw (n := 14) (fun j => !([5, 11, 13] : List Nat).contains j) rfl rfl ?_
     refine m_takel 1 rfl rfl (by kernel_rfl) (by kernel_rfl) (by kernel_rfl) (fun _ _ _ _ h => h) (vl_fieldAddr ty85 fo85_2 ty70 rfl) rfl rfl ?_
     refine m_take 3 false rfl rfl (by kernel_rfl) (by kernel_rfl) (by kernel_rfl) (fun _ _ _ _ h => h) (v_move rfl) rfl rfl ?_
     refine m_takel 6 rfl rfl (by kernel_rfl) (by kernel_rfl) (by kernel_rfl) (fun _ _ _ _ h => h) (vl_fieldAddr ty85 fo85_2 ty70 rfl) rfl rfl ?_
     refine m_take 8 false rfl rfl (by kernel_rfl) (by kernel_rfl) (by kernel_rfl) (fun _ _ _ _ h => h) (v_move rfl) rfl rfl ?_
     refine m_take 9 false rfl rfl (by kernel_rfl) (by kernel_rfl) (by kernel_rfl) (fun _ _ _ _ h => h) (v_add rfl rfl (by omega)) rfl rfl ?_
     refine m_all (is := [0, 2, 7]) (by kernel_rfl) rfl (fun _ _ _ => trivial) (fun i hi => ?_)
     rcases (by simpa using hi : i = 0 ∨ i = 2 ∨ i = 7) with rfl | rfl | rfl
     ·
      refine ⟨_, rfl, .inl ⟨rfl, ?_⟩⟩
      refine sm_lit0 ty70 ty69 rfl ?_
      refine m_all (is := [2, 7]) (by kernel_rfl) rfl (fun _ _ _ => trivial) (fun i hi => ?_)
      rcases (by simpa using hi : i = 2 ∨ i = 7) with rfl | rfl
      ·
       refine ⟨_, rfl, .inl ⟨rfl, ?_⟩⟩
       refine sm_val (v_loadl ty70 rfl rfl rfl rfl) rfl rfl ?_
       refine m_take 4 false rfl rfl (by kernel_rfl) (by kernel_rfl) (by kernel_rfl) (fun _ _ _ _ h => h) (v_slice_imm (lo := 0) (hi := i) (m := (((lrows p a).take i).map encW)) ty70 ty69 rfl rfl rfl (by first | rfl | (exact (rfl : (0 : Int) = ((0 : Nat) : Int))) | omega | (simp <;> omega)) (by first | rfl | (exact (rfl : (0 : Int) = ((0 : Nat) : Int))) | omega | (simp <;> omega)) (by first | omega | (simp <;> omega)) (by first | omega | (simp <;> omega)) (by refine Even.map _ ?_ _; intro _; rfl) (by rw [List.drop_zero, ← List.map_take])) rfl rfl ?_
       refine m_all (is := [5, 7]) (by kernel_rfl) rfl (fun _ _ _ => trivial) (fun i hi => ?_)
       rcases (by simpa using hi : i = 5 ∨ i = 7) with rfl | rfl
       ·
        refine ⟨_, rfl, .inl ⟨rfl, ?_⟩⟩
        refine sm_any rfl (s_append (l := []) (m := (((lrows p a).take i).map encW)) ty70 ty69 rfl rfl (Own.nil ..) rfl rfl (by refine Even.map _ ?_ _; intro _; rfl) (by intro x hx; obtain ⟨_, _, rfl⟩ := List.mem_map.1 hx; rfl) rfl (by simp; omega) (by simp; omega) ?_)
        intro av135 G135 h135
        rw [List.nil_append] at h135
        refine m_one 7 (by kernel_rfl) rfl rfl ?_
        refine sm_val (v_loadl ty70 rfl rfl rfl rfl) rfl rfl ?_
        refine m_take 10 false rfl rfl (by kernel_rfl) (by kernel_rfl) (by kernel_rfl) (fun _ _ _ _ h => h) (v_slice_imm (lo := (i + 1)) (hi := (lrows p a).length) (m := (((lrows p a).drop (i + 1)).map encW)) ty70 ty69 rfl rfl rfl (by first | rfl | (exact (rfl : (0 : Int) = ((0 : Nat) : Int))) | omega | (simp <;> omega)) (by simp) (by omega) (by simp) (by refine Even.map _ ?_ _; intro _; rfl) (by rw [List.take_of_length_le (by simp), ← List.map_drop])) rfl rfl ?_
        refine m_one 11 (by kernel_rfl) rfl rfl ?_
        refine sm_any rfl (s_append (l := (((lrows p a).take i).map encW)) (m := (((lrows p a).drop (i + 1)).map encW)) ty70 ty69 rfl rfl h135 rfl rfl (by refine Even.map _ ?_ _; intro _; rfl) (by intro x hx; obtain ⟨_, _, rfl⟩ := List.mem_map.1 hx; rfl) rfl (by simp; omega) (by simp; omega) ?_)
        intro av141 G141 h141
        rw [← List.map_append] at h141
        refine g_freeze 141 rfl h141 ?_
        refine m_takel 12 rfl rfl (by kernel_rfl) (by kernel_rfl) (by kernel_rfl) (fun _ _ _ _ h => h) (vl_fieldAddr ty85 fo85_2 ty70 rfl) rfl rfl ?_
        refine m_one 13 (by kernel_rfl) rfl rfl ?_
        refine sm_any rfl (s_store (new := (.agg [.bool true, .int .i64 a.life, .imm (((lrows p a).take i ++ (lrows p a).drop (i + 1)).map encW)])) ty70 rfl rfl rfl rfl rfl rfl rfl ?_)
        refine m_done (by kernel_rfl) ?_
        refine g_next hK26 ?_
        refine g_seq (fun K27 hK27 => ?_)
        refine g_region ?_
        refine g_step rfl (s_val (by first | exact v_loadl_all ty85 rfl rfl rfl rfl rfl | exact v_loadl_part (cs := [_, _, _]) ty85 rfl rfl rfl rfl rfl rfl) rfl rfl ?_)
        refine g_step rfl (s_store_all ty85 rfl rfl rfl rfl rfl rfl ?_)
        refine g_step rfl (s_val (v_assign rfl) rfl rfl ?_)
        refine g_nil ?_
        refine g_next hK27 ?_
        refine g_ret ?_
        refine g_end2 (.inl rfl) Try.results46 (.agg ty85 rfl rfl rfl rfl rfl) (.tmp rfl) [] (ASub.refl _) (AHeap.sub_refl _) (fun p hp => by cases hp) ⟨rfl, ⟨true, a.life, (lrows p a).take i ++ (lrows p a).drop (i + 1)⟩, true, rfl, .inr ⟨rfl, hlb, hcl, rfl, rfl, .inr ⟨by omega, i, w, hw, hne, hmin, rfl⟩⟩⟩
       ·
        refine ⟨_, rfl, .inl ⟨rfl, ?_⟩⟩
        refine sm_val (v_loadl ty70 rfl rfl rfl rfl) rfl rfl ?_
        refine m_take 10 false rfl rfl (by kernel_rfl) (by kernel_rfl) (by kernel_rfl) (fun _ _ _ _ h => h) (v_slice_imm (lo := (i + 1)) (hi := (lrows p a).length) (m := (((lrows p a).drop (i + 1)).map encW)) ty70 ty69 rfl rfl rfl (by first | rfl | (exact (rfl : (0 : Int) = ((0 : Nat) : Int))) | omega | (simp <;> omega)) (by simp) (by omega) (by simp) (by refine Even.map _ ?_ _; intro _; rfl) (by rw [List.take_of_length_le (by simp), ← List.map_drop])) rfl rfl ?_
        refine m_one 5 (by kernel_rfl) rfl rfl ?_
        refine sm_any rfl (s_append (l := []) (m := (((lrows p a).take i).map encW)) ty70 ty69 rfl rfl (Own.nil ..) rfl rfl (by refine Even.map _ ?_ _; intro _; rfl) (by intro x hx; obtain ⟨_, _, rfl⟩ := List.mem_map.1 hx; rfl) rfl (by simp; omega) (by simp; omega) ?_)
        intro av135 G135 h135
        rw [List.nil_append] at h135
        refine m_one 11 (by kernel_rfl) rfl rfl ?_
        refine sm_any rfl (s_append (l := (((lrows p a).take i).map encW)) (m := (((lrows p a).drop (i + 1)).map encW)) ty70 ty69 rfl rfl h135 rfl rfl (by refine Even.map _ ?_ _; intro _; rfl) (by intro x hx; obtain ⟨_, _, rfl⟩ := List.mem_map.1 hx; rfl) rfl (by simp; omega) (by simp; omega) ?_)
        intro av141 G141 h141
        rw [← List.map_append] at h141
        refine g_freeze 141 rfl h141 ?_
        refine m_takel 12 rfl rfl (by kernel_rfl) (by kernel_rfl) (by kernel_rfl) (fun _ _ _ _ h => h) (vl_fieldAddr ty85 fo85_2 ty70 rfl) rfl rfl ?_
        refine m_one 13 (by kernel_rfl) rfl rfl ?_
        refine sm_any rfl (s_store (new := (.agg [.bool true, .int .i64 a.life, .imm (((lrows p a).take i ++ (lrows p a).drop (i + 1)).map encW)])) ty70 rfl rfl rfl rfl rfl rfl rfl ?_)
        refine m_done (by kernel_rfl) ?_
        refine g_next hK26 ?_
        refine g_seq (fun K28 hK28 => ?_)
        refine g_region ?_
        refine g_step rfl (s_val (by first | exact v_loadl_all ty85 rfl rfl rfl rfl rfl | exact v_loadl_part (cs := [_, _, _]) ty85 rfl rfl rfl rfl rfl rfl) rfl rfl ?_)
        refine g_step rfl (s_store_all ty85 rfl rfl rfl rfl rfl rfl ?_)
        refine g_step rfl (s_val (v_assign rfl) rfl rfl ?_)
        refine g_nil ?_
        refine g_next hK28 ?_
        refine g_ret ?_
        refine g_end2 (.inl rfl) Try.results46 (.agg ty85 rfl rfl rfl rfl rfl) (.tmp rfl) [] (ASub.refl _) (AHeap.sub_refl _) (fun p hp => by cases hp) ⟨rfl, ⟨true, a.life, (lrows p a).take i ++ (lrows p a).drop (i + 1)⟩, true, rfl, .inr ⟨rfl, hlb, hcl, rfl, rfl, .inr ⟨by omega, i, w, hw, hne, hmin, rfl⟩⟩⟩
      ·
       refine ⟨_, rfl, .inl ⟨rfl, ?_⟩⟩
       refine sm_val (v_loadl ty70 rfl rfl rfl rfl) rfl rfl ?_
       refine m_take 10 false rfl rfl (by kernel_rfl) (by kernel_rfl) (by kernel_rfl) (fun _ _ _ _ h => h) (v_slice_imm (lo := (i + 1)) (hi := (lrows p a).length) (m := (((lrows p a).drop (i + 1)).map encW)) ty70 ty69 rfl rfl rfl (by first | rfl | (exact (rfl : (0 : Int) = ((0 : Nat) : Int))) | omega | (simp <;> omega)) (by simp) (by omega) (by simp) (by refine Even.map _ ?_ _; intro _; rfl) (by rw [List.take_of_length_le (by simp), ← List.map_drop])) rfl rfl ?_
       refine m_one 2 (by kernel_rfl) rfl rfl ?_
       refine sm_val (v_loadl ty70 rfl rfl rfl rfl) rfl rfl ?_
       refine m_take 4 false rfl rfl (by kernel_rfl) (by kernel_rfl) (by kernel_rfl) (fun _ _ _ _ h => h) (v_slice_imm (lo := 0) (hi := i) (m := (((lrows p a).take i).map encW)) ty70 ty69 rfl rfl rfl (by first | rfl | (exact (rfl : (0 : Int) = ((0 : Nat) : Int))) | omega | (simp <;> omega)) (by first | rfl | (exact (rfl : (0 : Int) = ((0 : Nat) : Int))) | omega | (simp <;> omega)) (by first | omega | (simp <;> omega)) (by first | omega | (simp <;> omega)) (by refine Even.map _ ?_ _; intro _; rfl) (by rw [List.drop_zero, ← List.map_take])) rfl rfl ?_
       refine m_one 5 (by kernel_rfl) rfl rfl ?_
       refine sm_any rfl (s_append (l := []) (m := (((lrows p a).take i).map encW)) ty70 ty69 rfl rfl (Own.nil ..) rfl rfl (by refine Even.map _ ?_ _; intro _; rfl) (by intro x hx; obtain ⟨_, _, rfl⟩ := List.mem_map.1 hx; rfl) rfl (by simp; omega) (by simp; omega) ?_)
       intro av135 G135 h135
       rw [List.nil_append] at h135
       refine m_one 11 (by kernel_rfl) rfl rfl ?_
       refine sm_any rfl (s_append (l := (((lrows p a).take i).map encW)) (m := (((lrows p a).drop (i + 1)).map encW)) ty70 ty69 rfl rfl h135 rfl rfl (by refine Even.map _ ?_ _; intro _; rfl) (by intro x hx; obtain ⟨_, _, rfl⟩ := List.mem_map.1 hx; rfl) rfl (by simp; omega) (by simp; omega) ?_)
       intro av141 G141 h141
       rw [← List.map_append] at h141
       refine g_freeze 141 rfl h141 ?_
       refine m_takel 12 rfl rfl (by kernel_rfl) (by kernel_rfl) (by kernel_rfl) (fun _ _ _ _ h => h) (vl_fieldAddr ty85 fo85_2 ty70 rfl) rfl rfl ?_
       refine m_one 13 (by kernel_rfl) rfl rfl ?_
       refine sm_any rfl (s_store (new := (.agg [.bool true, .int .i64 a.life, .imm (((lrows p a).take i ++ (lrows p a).drop (i + 1)).map encW)])) ty70 rfl rfl rfl rfl rfl rfl rfl ?_)
       refine m_done (by kernel_rfl) ?_
       refine g_next hK26 ?_
       refine g_seq (fun K29 hK29 => ?_)
       refine g_region ?_
       refine g_step rfl (s_val (by first | exact v_loadl_all ty85 rfl rfl rfl rfl rfl | exact v_loadl_part (cs := [_, _, _]) ty85 rfl rfl rfl rfl rfl rfl) rfl rfl ?_)
       refine g_step rfl (s_store_all ty85 rfl rfl rfl rfl rfl rfl ?_)
       refine g_step rfl (s_val (v_assign rfl) rfl rfl ?_)
       refine g_nil ?_
       refine g_next hK29 ?_
       refine g_ret ?_
       refine g_end2 (.inl rfl) Try.results46 (.agg ty85 rfl rfl rfl rfl rfl) (.tmp rfl) [] (ASub.refl _) (AHeap.sub_refl _) (fun p hp => by cases hp) ⟨rfl, ⟨true, a.life, (lrows p a).take i ++ (lrows p a).drop (i + 1)⟩, true, rfl, .inr ⟨rfl, hlb, hcl, rfl, rfl, .inr ⟨by omega, i, w, hw, hne, hmin, rfl⟩⟩⟩
     ·
      refine ⟨_, rfl, .inl ⟨rfl, ?_⟩⟩
      refine sm_val (v_loadl ty70 rfl rfl rfl rfl) rfl rfl ?_
      refine m_take 4 false rfl rfl (by kernel_rfl) (by kernel_rfl) (by kernel_rfl) (fun _ _ _ _ h => h) (v_slice_imm (lo := 0) (hi := i) (m := (((lrows p a).take i).map encW)) ty70 ty69 rfl rfl rfl (by first | rfl | (exact (rfl : (0 : Int) = ((0 : Nat) : Int))) | omega | (simp <;> omega)) (by first | rfl | (exact (rfl : (0 : Int) = ((0 : Nat) : Int))) | omega | (simp <;> omega)) (by first | omega | (simp <;> omega)) (by first | omega | (simp <;> omega)) (by refine Even.map _ ?_ _; intro _; rfl) (by rw [List.drop_zero, ← List.map_take])) rfl rfl ?_
      refine m_all (is := [0, 7]) (by kernel_rfl) rfl (fun _ _ _ => trivial) (fun i hi => ?_)
      rcases (by simpa using hi : i = 0 ∨ i = 7) with rfl | rfl
      ·
       refine ⟨_, rfl, .inl ⟨rfl, ?_⟩⟩
       refine sm_lit0 ty70 ty69 rfl ?_
       refine m_all (is := [5, 7]) (by kernel_rfl) rfl (fun _ _ _ => trivial) (fun i hi => ?_)
       rcases (by simpa using hi : i = 5 ∨ i = 7) with rfl | rfl
       ·
        refine ⟨_, rfl, .inl ⟨rfl, ?_⟩⟩
        refine sm_any rfl (s_append (l := []) (m := (((lrows p a).take i).map encW)) ty70 ty69 rfl rfl (Own.nil ..) rfl rfl (by refine Even.map _ ?_ _; intro _; rfl) (by intro x hx; obtain ⟨_, _, rfl⟩ := List.mem_map.1 hx; rfl) rfl (by simp; omega) (by simp; omega) ?_)
        intro av135 G135 h135
        rw [List.nil_append] at h135
        refine m_one 7 (by kernel_rfl) rfl rfl ?_
        refine sm_val (v_loadl ty70 rfl rfl rfl rfl) rfl rfl ?_
        refine m_take 10 false rfl rfl (by kernel_rfl) (by kernel_rfl) (by kernel_rfl) (fun _ _ _ _ h => h) (v_slice_imm (lo := (i + 1)) (hi := (lrows p a).length) (m := (((lrows p a).drop (i + 1)).map encW)) ty70 ty69 rfl rfl rfl (by first | rfl | (exact (rfl : (0 : Int) = ((0 : Nat) : Int))) | omega | (simp <;> omega)) (by simp) (by omega) (by simp) (by refine Even.map _ ?_ _; intro _; rfl) (by rw [List.take_of_length_le (by simp), ← List.map_drop])) rfl rfl ?_
        refine m_one 11 (by kernel_rfl) rfl rfl ?_
        refine sm_any rfl (s_append (l := (((lrows p a).take i).map encW)) (m := (((lrows p a).drop (i + 1)).map encW)) ty70 ty69 rfl rfl h135 rfl rfl (by refine Even.map _ ?_ _; intro _; rfl) (by intro x hx; obtain ⟨_, _, rfl⟩ := List.mem_map.1 hx; rfl) rfl (by simp; omega) (by simp; omega) ?_)
        intro av141 G141 h141
        rw [← List.map_append] at h141
        refine g_freeze 141 rfl h141 ?_
        refine m_takel 12 rfl rfl (by kernel_rfl) (by kernel_rfl) (by kernel_rfl) (fun _ _ _ _ h => h) (vl_fieldAddr ty85 fo85_2 ty70 rfl) rfl rfl ?_
        refine m_one 13 (by kernel_rfl) rfl rfl ?_
        refine sm_any rfl (s_store (new := (.agg [.bool true, .int .i64 a.life, .imm (((lrows p a).take i ++ (lrows p a).drop (i + 1)).map encW)])) ty70 rfl rfl rfl rfl rfl rfl rfl ?_)
        refine m_done (by kernel_rfl) ?_
        refine g_next hK26 ?_
        refine g_seq (fun K30 hK30 => ?_)
        refine g_region ?_
        refine g_step rfl (s_val (by first | exact v_loadl_all ty85 rfl rfl rfl rfl rfl | exact v_loadl_part (cs := [_, _, _]) ty85 rfl rfl rfl rfl rfl rfl) rfl rfl ?_)
        refine g_step rfl (s_store_all ty85 rfl rfl rfl rfl rfl rfl ?_)
        refine g_step rfl (s_val (v_assign rfl) rfl rfl ?_)
        refine g_nil ?_
        refine g_next hK30 ?_
        refine g_ret ?_
        refine g_end2 (.inl rfl) Try.results46 (.agg ty85 rfl rfl rfl rfl rfl) (.tmp rfl) [] (ASub.refl _) (AHeap.sub_refl _) (fun p hp => by cases hp) ⟨rfl, ⟨true, a.life, (lrows p a).take i ++ (lrows p a).drop (i + 1)⟩, true, rfl, .inr ⟨rfl, hlb, hcl, rfl, rfl, .inr ⟨by omega, i, w, hw, hne, hmin, rfl⟩⟩⟩
       ·
        refine ⟨_, rfl, .inl ⟨rfl, ?_⟩⟩
        refine sm_val (v_loadl ty70 rfl rfl rfl rfl) rfl rfl ?_
        refine m_take 10 false rfl rfl (by kernel_rfl) (by kernel_rfl) (by kernel_rfl) (fun _ _ _ _ h => h) (v_slice_imm (lo := (i + 1)) (hi := (lrows p a).length) (m := (((lrows p a).drop (i + 1)).map encW)) ty70 ty69 rfl rfl rfl (by first | rfl | (exact (rfl : (0 : Int) = ((0 : Nat) : Int))) | omega | (simp <;> omega)) (by simp) (by omega) (by simp) (by refine Even.map _ ?_ _; intro _; rfl) (by rw [List.take_of_length_le (by simp), ← List.map_drop])) rfl rfl ?_
        refine m_one 5 (by kernel_rfl) rfl rfl ?_
        refine sm_any rfl (s_append (l := []) (m := (((lrows p a).take i).map encW)) ty70 ty69 rfl rfl (Own.nil ..) rfl rfl (by refine Even.map _ ?_ _; intro _; rfl) (by intro x hx; obtain ⟨_, _, rfl⟩ := List.mem_map.1 hx; rfl) rfl (by simp; omega) (by simp; omega) ?_)
        intro av135 G135 h135
        rw [List.nil_append] at h135
        refine m_one 11 (by kernel_rfl) rfl rfl ?_
        refine sm_any rfl (s_append (l := (((lrows p a).take i).map encW)) (m := (((lrows p a).drop (i + 1)).map encW)) ty70 ty69 rfl rfl h135 rfl rfl (by refine Even.map _ ?_ _; intro _; rfl) (by intro x hx; obtain ⟨_, _, rfl⟩ := List.mem_map.1 hx; rfl) rfl (by simp; omega) (by simp; omega) ?_)
        intro av141 G141 h141
        rw [← List.map_append] at h141
        refine g_freeze 141 rfl h141 ?_
        refine m_takel 12 rfl rfl (by kernel_rfl) (by kernel_rfl) (by kernel_rfl) (fun _ _ _ _ h => h) (vl_fieldAddr ty85 fo85_2 ty70 rfl) rfl rfl ?_
        refine m_one 13 (by kernel_rfl) rfl rfl ?_
        refine sm_any rfl (s_store (new := (.agg [.bool true, .int .i64 a.life, .imm (((lrows p a).take i ++ (lrows p a).drop (i + 1)).map encW)])) ty70 rfl rfl rfl rfl rfl rfl rfl ?_)
        refine m_done (by kernel_rfl) ?_
        refine g_next hK26 ?_
        refine g_seq (fun K31 hK31 => ?_)
        refine g_region ?_
        refine g_step rfl (s_val (by first | exact v_loadl_all ty85 rfl rfl rfl rfl rfl | exact v_loadl_part (cs := [_, _, _]) ty85 rfl rfl rfl rfl rfl rfl) rfl rfl ?_)
        refine g_step rfl (s_store_all ty85 rfl rfl rfl rfl rfl rfl ?_)
        refine g_step rfl (s_val (v_assign rfl) rfl rfl ?_)
        refine g_nil ?_
        refine g_next hK31 ?_
        refine g_ret ?_
        refine g_end2 (.inl rfl) Try.results46 (.agg ty85 rfl rfl rfl rfl rfl) (.tmp rfl) [] (ASub.refl _) (AHeap.sub_refl _) (fun p hp => by cases hp) ⟨rfl, ⟨true, a.life, (lrows p a).take i ++ (lrows p a).drop (i + 1)⟩, true, rfl, .inr ⟨rfl, hlb, hcl, rfl, rfl, .inr ⟨by omega, i, w, hw, hne, hmin, rfl⟩⟩⟩
      ·
       refine ⟨_, rfl, .inl ⟨rfl, ?_⟩⟩
       refine sm_val (v_loadl ty70 rfl rfl rfl rfl) rfl rfl ?_
       refine m_take 10 false rfl rfl (by kernel_rfl) (by kernel_rfl) (by kernel_rfl) (fun _ _ _ _ h => h) (v_slice_imm (lo := (i + 1)) (hi := (lrows p a).length) (m := (((lrows p a).drop (i + 1)).map encW)) ty70 ty69 rfl rfl rfl (by first | rfl | (exact (rfl : (0 : Int) = ((0 : Nat) : Int))) | omega | (simp <;> omega)) (by simp) (by omega) (by simp) (by refine Even.map _ ?_ _; intro _; rfl) (by rw [List.take_of_length_le (by simp), ← List.map_drop])) rfl rfl ?_
       refine m_one 0 (by kernel_rfl) rfl rfl ?_
       refine sm_lit0 ty70 ty69 rfl ?_
       refine m_one 5 (by kernel_rfl) rfl rfl ?_
       refine sm_any rfl (s_append (l := []) (m := (((lrows p a).take i).map encW)) ty70 ty69 rfl rfl (Own.nil ..) rfl rfl (by refine Even.map _ ?_ _; intro _; rfl) (by intro x hx; obtain ⟨_, _, rfl⟩ := List.mem_map.1 hx; rfl) rfl (by simp; omega) (by simp; omega) ?_)
       intro av135 G135 h135
       rw [List.nil_append] at h135
       refine m_one 11 (by kernel_rfl) rfl rfl ?_
       refine sm_any rfl (s_append (l := (((lrows p a).take i).map encW)) (m := (((lrows p a).drop (i + 1)).map encW)) ty70 ty69 rfl rfl h135 rfl rfl (by refine Even.map _ ?_ _; intro _; rfl) (by intro x hx; obtain ⟨_, _, rfl⟩ := List.mem_map.1 hx; rfl) rfl (by simp; omega) (by simp; omega) ?_)
       intro av141 G141 h141
       rw [← List.map_append] at h141
       refine g_freeze 141 rfl h141 ?_
       refine m_takel 12 rfl rfl (by kernel_rfl) (by kernel_rfl) (by kernel_rfl) (fun _ _ _ _ h => h) (vl_fieldAddr ty85 fo85_2 ty70 rfl) rfl rfl ?_
       refine m_one 13 (by kernel_rfl) rfl rfl ?_
       refine sm_any rfl (s_store (new := (.agg [.bool true, .int .i64 a.life, .imm (((lrows p a).take i ++ (lrows p a).drop (i + 1)).map encW)])) ty70 rfl rfl rfl rfl rfl rfl rfl ?_)
       refine m_done (by kernel_rfl) ?_
       refine g_next hK26 ?_
       refine g_seq (fun K32 hK32 => ?_)
       refine g_region ?_
       refine g_step rfl (s_val (by first | exact v_loadl_all ty85 rfl rfl rfl rfl rfl | exact v_loadl_part (cs := [_, _, _]) ty85 rfl rfl rfl rfl rfl rfl) rfl rfl ?_)
       refine g_step rfl (s_store_all ty85 rfl rfl rfl rfl rfl rfl ?_)
       refine g_step rfl (s_val (v_assign rfl) rfl rfl ?_)
       refine g_nil ?_
       refine g_next hK32 ?_
       refine g_ret ?_
       refine g_end2 (.inl rfl) Try.results46 (.agg ty85 rfl rfl rfl rfl rfl) (.tmp rfl) [] (ASub.refl _) (AHeap.sub_refl _) (fun p hp => by cases hp) ⟨rfl, ⟨true, a.life, (lrows p a).take i ++ (lrows p a).drop (i + 1)⟩, true, rfl, .inr ⟨rfl, hlb, hcl, rfl, rfl, .inr ⟨by omega, i, w, hw, hne, hmin, rfl⟩⟩⟩
     ·
      refine ⟨_, rfl, .inl ⟨rfl, ?_⟩⟩
      refine sm_val (v_loadl ty70 rfl rfl rfl rfl) rfl rfl ?_
      refine m_take 10 false rfl rfl (by kernel_rfl) (by kernel_rfl) (by kernel_rfl) (fun _ _ _ _ h => h) (v_slice_imm (lo := (i + 1)) (hi := (lrows p a).length) (m := (((lrows p a).drop (i + 1)).map encW)) ty70 ty69 rfl rfl rfl (by first | rfl | (exact (rfl : (0 : Int) = ((0 : Nat) : Int))) | omega | (simp <;> omega)) (by simp) (by omega) (by simp) (by refine Even.map _ ?_ _; intro _; rfl) (by rw [List.take_of_length_le (by simp), ← List.map_drop])) rfl rfl ?_
      refine m_all (is := [0, 2]) (by kernel_rfl) rfl (fun _ _ _ => trivial) (fun i hi => ?_)
      rcases (by simpa using hi : i = 0 ∨ i = 2) with rfl | rfl
      ·
       refine ⟨_, rfl, .inl ⟨rfl, ?_⟩⟩
       refine sm_lit0 ty70 ty69 rfl ?_
       refine m_one 2 (by kernel_rfl) rfl rfl ?_
       refine sm_val (v_loadl ty70 rfl rfl rfl rfl) rfl rfl ?_
       refine m_take 4 false rfl rfl (by kernel_rfl) (by kernel_rfl) (by kernel_rfl) (fun _ _ _ _ h => h) (v_slice_imm (lo := 0) (hi := i) (m := (((lrows p a).take i).map encW)) ty70 ty69 rfl rfl rfl (by first | rfl | (exact (rfl : (0 : Int) = ((0 : Nat) : Int))) | omega | (simp <;> omega)) (by first | rfl | (exact (rfl : (0 : Int) = ((0 : Nat) : Int))) | omega | (simp <;> omega)) (by first | omega | (simp <;> omega)) (by first | omega | (simp <;> omega)) (by refine Even.map _ ?_ _; intro _; rfl) (by rw [List.drop_zero, ← List.map_take])) rfl rfl ?_
       refine m_one 5 (by kernel_rfl) rfl rfl ?_
       refine sm_any rfl (s_append (l := []) (m := (((lrows p a).take i).map encW)) ty70 ty69 rfl rfl (Own.nil ..) rfl rfl (by refine Even.map _ ?_ _; intro _; rfl) (by intro x hx; obtain ⟨_, _, rfl⟩ := List.mem_map.1 hx; rfl) rfl (by simp; omega) (by simp; omega) ?_)
       intro av135 G135 h135
       rw [List.nil_append] at h135
       refine m_one 11 (by kernel_rfl) rfl rfl ?_
       refine sm_any rfl (s_append (l := (((lrows p a).take i).map encW)) (m := (((lrows p a).drop (i + 1)).map encW)) ty70 ty69 rfl rfl h135 rfl rfl (by refine Even.map _ ?_ _; intro _; rfl) (by intro x hx; obtain ⟨_, _, rfl⟩ := List.mem_map.1 hx; rfl) rfl (by simp; omega) (by simp; omega) ?_)
       intro av141 G141 h141
       rw [← List.map_append] at h141
       refine g_freeze 141 rfl h141 ?_
       refine m_takel 12 rfl rfl (by kernel_rfl) (by kernel_rfl) (by kernel_rfl) (fun _ _ _ _ h => h) (vl_fieldAddr ty85 fo85_2 ty70 rfl) rfl rfl ?_
       refine m_one 13 (by kernel_rfl) rfl rfl ?_
       refine sm_any rfl (s_store (new := (.agg [.bool true, .int .i64 a.life, .imm (((lrows p a).take i ++ (lrows p a).drop (i + 1)).map encW)])) ty70 rfl rfl rfl rfl rfl rfl rfl ?_)
       refine m_done (by kernel_rfl) ?_
       refine g_next hK26 ?_
       refine g_seq (fun K33 hK33 => ?_)
       refine g_region ?_
       refine g_step rfl (s_val (by first | exact v_loadl_all ty85 rfl rfl rfl rfl rfl | exact v_loadl_part (cs := [_, _, _]) ty85 rfl rfl rfl rfl rfl rfl) rfl rfl ?_)
       refine g_step rfl (s_store_all ty85 rfl rfl rfl rfl rfl rfl ?_)
       refine g_step rfl (s_val (v_assign rfl) rfl rfl ?_)
       refine g_nil ?_
       refine g_next hK33 ?_
       refine g_ret ?_
       refine g_end2 (.inl rfl) Try.results46 (.agg ty85 rfl rfl rfl rfl rfl) (.tmp rfl) [] (ASub.refl _) (AHeap.sub_refl _) (fun p hp => by cases hp) ⟨rfl, ⟨true, a.life, (lrows p a).take i ++ (lrows p a).drop (i + 1)⟩, true, rfl, .inr ⟨rfl, hlb, hcl, rfl, rfl, .inr ⟨by omega, i, w, hw, hne, hmin, rfl⟩⟩⟩
      ·
       refine ⟨_, rfl, .inl ⟨rfl, ?_⟩⟩
       refine sm_val (v_loadl ty70 rfl rfl rfl rfl) rfl rfl ?_
       refine m_take 4 false rfl rfl (by kernel_rfl) (by kernel_rfl) (by kernel_rfl) (fun _ _ _ _ h => h) (v_slice_imm (lo := 0) (hi := i) (m := (((lrows p a).take i).map encW)) ty70 ty69 rfl rfl rfl (by first | rfl | (exact (rfl : (0 : Int) = ((0 : Nat) : Int))) | omega | (simp <;> omega)) (by first | rfl | (exact (rfl : (0 : Int) = ((0 : Nat) : Int))) | omega | (simp <;> omega)) (by first | omega | (simp <;> omega)) (by first | omega | (simp <;> omega)) (by refine Even.map _ ?_ _; intro _; rfl) (by rw [List.drop_zero, ← List.map_take])) rfl rfl ?_
       refine m_one 0 (by kernel_rfl) rfl rfl ?_
       refine sm_lit0 ty70 ty69 rfl ?_
       refine m_one 5 (by kernel_rfl) rfl rfl ?_
       refine sm_any rfl (s_append (l := []) (m := (((lrows p a).take i).map encW)) ty70 ty69 rfl rfl (Own.nil ..) rfl rfl (by refine Even.map _ ?_ _; intro _; rfl) (by intro x hx; obtain ⟨_, _, rfl⟩ := List.mem_map.1 hx; rfl) rfl (by simp; omega) (by simp; omega) ?_)
       intro av135 G135 h135
       rw [List.nil_append] at h135
       refine m_one 11 (by kernel_rfl) rfl rfl ?_
       refine sm_any rfl (s_append (l := (((lrows p a).take i).map encW)) (m := (((lrows p a).drop (i + 1)).map encW)) ty70 ty69 rfl rfl h135 rfl rfl (by refine Even.map _ ?_ _; intro _; rfl) (by intro x hx; obtain ⟨_, _, rfl⟩ := List.mem_map.1 hx; rfl) rfl (by simp; omega) (by simp; omega) ?_)
       intro av141 G141 h141
       rw [← List.map_append] at h141
       refine g_freeze 141 rfl h141 ?_
       refine m_takel 12 rfl rfl (by kernel_rfl) (by kernel_rfl) (by kernel_rfl) (fun _ _ _ _ h => h) (vl_fieldAddr ty85 fo85_2 ty70 rfl) rfl rfl ?_
       refine m_one 13 (by kernel_rfl) rfl rfl ?_
       refine sm_any rfl (s_store (new := (.agg [.bool true, .int .i64 a.life, .imm (((lrows p a).take i ++ (lrows p a).drop (i + 1)).map encW)])) ty70 rfl rfl rfl rfl rfl rfl rfl ?_)
       refine m_done (by kernel_rfl) ?_
       refine g_next hK26 ?_
       refine g_seq (fun K34 hK34 => ?_)
       refine g_region ?_
       refine g_step rfl (s_val (by first | exact v_loadl_all ty85 rfl rfl rfl rfl rfl | exact v_loadl_part (cs := [_, _, _]) ty85 rfl rfl rfl rfl rfl rfl) rfl rfl ?_)
       refine g_step rfl (s_store_all ty85 rfl rfl rfl rfl rfl rfl ?_)
       refine g_step rfl (s_val (v_assign rfl) rfl rfl ?_)
       refine g_nil ?_
       refine g_next hK34 ?_
       refine g_ret ?_
       refine g_end2 (.inl rfl) Try.results46 (.agg ty85 rfl rfl rfl rfl rfl) (.tmp rfl) [] (ASub.refl _) (AHeap.sub_refl _) (fun p hp => by cases hp) ⟨rfl, ⟨true, a.life, (lrows p a).take i ++ (lrows p a).drop (i + 1)⟩, true, rfl, .inr ⟨rfl, hlb, hcl, rfl, rfl, .inr ⟨by omega, i, w, hw, hne, hmin, rfl⟩⟩⟩

end Go.Proofs.Ytobigfbgaiglkaa

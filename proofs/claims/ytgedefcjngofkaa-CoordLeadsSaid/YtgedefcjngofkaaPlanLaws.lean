import Derived.Test.YtgedefcjngofkaaPlan2
import Derived.Test.YtgedefcjngofkaaPPlan2
set_option maxHeartbeats 8000000
set_option linter.unusedSimpArgs false
set_option linter.unusedVariables false
set_option maxRecDepth 100000
namespace Go.Proofs.Ytgedefcjngofkaa
open Go Go.Proofs.Ytgedefcjngofkaa.AM
theorem speak32_ok (l : List Rc) (G : AHeap) (hl : l.length ≤ 100000) : PCalls Try.prog 20 [encRs l] G (fun v => v = .bool (speakB l)) := by
 refine LCalls.intro 42 fi20 rfl Try.ntmps20 rfl (fun _ h => h.elim) (fun H hH w0 hw0 => ?_)
 refine g_seq (fun K0 hK0 => ?_)
 refine g_region ?_
 refine g_step rfl (s_val (v_assign rfl) rfl rfl ?_)
 refine g_nil ?_
 refine g_next hK0 ?_
 refine g_seq (fun K1 hK1 => ?_)
 refine g_seq (fun K2 hK2 => ?_)
 refine g_region ?_
 refine g_step rfl (s_val (v_assign rfl) rfl rfl ?_)
 refine g_nil ?_
 refine g_next hK2 ?_
 refine g_block ?_
 first | refine g_keep [0, 3] [] [] (keep_cons rfl (keep_cons rfl keep_nil)) lkeep_nil keep_nil rfl ?_ | refine g_keep [0, 3] [] [] rfl rfl rfl rfl ?_
 refine g_loop (fun n env L B G => ∃ (i : Nat) , i ≤ l.length ∧ n = l.length - i ∧ env = [(0, encRs l), (3, .int .i64 (i : Int))] ∧ L = [] ∧ B = [] ∧ H = G ∧ Pairs l i) (l.length) ⟨0, Nat.zero_le _, rfl, rfl, rfl, rfl, rfl, (fun i' k' a b h => absurd h (Nat.not_lt_zero _))⟩ (fun n env L B G hI => ?_)
 obtain ⟨i, hi, rfl, rfl, rfl, rfl, rfl, hp⟩ := hI
 refine g_seq (fun K3 hK3 => ?_)
 refine g_seq (fun K4 hK4 => ?_)
 refine g_region ?_
 refine g_step rfl (s_val (v_move rfl) rfl rfl ?_)
 refine g_step rfl (s_val (v_move rfl) rfl rfl ?_)
 refine g_step rfl (s_val (v_len ty22 rfl (by first | rfl | assumption) (by first | exact List.length_map .. | rfl)) rfl rfl ?_)
 refine g_step rfl (s_val (v_lss rfl rfl) rfl rfl ?_)
 refine g_nil ?_
 refine g_next hK4 ?_
 refine g_cond rfl (fun hc8 => ?_) (fun hc8 => ?_)
 ·
  try simp only [NM] at hc8
  obtain ⟨x, hx⟩ := get_some (l := l) (k := i) (by omega)
  refine g_skip ?_
  refine g_next hK3 ?_
  refine g_seq (fun K5 hK5 => ?_)
  refine g_block ?_
  refine g_seq (fun K6 hK6 => ?_)
  refine g_region ?_
  refine g_step rfl (s_val (v_assign rfl) rfl rfl ?_)
  refine g_nil ?_
  refine g_next hK6 ?_
  refine g_block ?_
  first | refine g_keep [0, 3, 4] [] [] (keep_cons rfl (keep_cons rfl (keep_cons rfl keep_nil))) lkeep_nil keep_nil rfl ?_ | refine g_keep [0, 3, 4] [] [] rfl rfl rfl rfl ?_
  refine g_loop (fun n env L B G => ∃ (j : Nat) , j ≤ (i + 1) ∧ n = (i + 1) - j ∧ env = [(0, encRs l), (3, .int .i64 (i : Int)), (4, .int .i64 (j : Int))] ∧ L = [] ∧ B = [] ∧ H = G ∧ Pairs1 l i j) ((i + 1)) ⟨0, Nat.zero_le _, rfl, rfl, rfl, rfl, rfl, (fun k' a b h => absurd h (Nat.not_lt_zero _))⟩ (fun n env L B G hI => ?_)
  obtain ⟨j, hj, rfl, rfl, rfl, rfl, rfl, hq⟩ := hI
  refine g_seq (fun K7 hK7 => ?_)
  refine g_seq (fun K8 hK8 => ?_)
  refine g_region ?_
  refine g_step rfl (s_val (v_move rfl) rfl rfl ?_)
  refine g_step rfl (s_val (v_move rfl) rfl rfl ?_)
  refine g_step rfl (s_val (v_leq rfl rfl) rfl rfl ?_)
  refine g_nil ?_
  refine g_next hK8 ?_
  refine g_cond rfl (fun hc13 => ?_) (fun hc13 => ?_)
  ·
   try simp only [NM] at hc13
   obtain ⟨y, hy⟩ := get_some (l := l) (k := j) (by omega)
   refine g_skip ?_
   refine g_next hK7 ?_
   refine g_seq (fun K9 hK9 => ?_)
   refine g_block ?_
   refine g_seq (fun K10 hK10 => ?_)
   refine g_draw (n := 26) (fun j => !([] : List Nat).contains j) rfl rfl ?_
   refine m_tk 0 false rfl rfl (by kernel_rfl) (v_move rfl) rfl rfl ?_
   refine m_tk 1 false rfl rfl (by kernel_rfl) (v_move rfl) rfl rfl ?_
   refine m_tk 2 false rfl rfl (by kernel_rfl) (v_indexAddr ty22 ty32 rfl rfl (by first | rfl | assumption) (by first | rfl | exact (rfl : (0 : Int) = ((0 : Nat) : Int)) | exact (Int.toNat_of_nonneg (by omega)).symm) (map_get hx) rfl) rfl rfl ?_
   refine m_tk 3 true rfl rfl (by kernel_rfl) (by first | exact v_load_elt ty32 rfl rfl (by first | rfl | assumption) (map_get hx) rfl rfl | exact v_load_box_all ty32 rfl rfl (by assumption) rfl rfl | exact v_load_part (cs := [_, _, _, _, _, _, _]) ty32 rfl rfl (by first | rfl | assumption) (map_get hx) rfl rfl rfl | exact v_load_box_part (cs := [_, _, _, _, _, _, _]) ty32 rfl rfl (by assumption) rfl rfl rfl) rfl rfl ?_
   refine m_one 4 (by kernel_rfl) rfl rfl ?_
   refine sm_callp rfl rfl rfl (counts32_ok _ _) ?_
   rintro _ rfl
   refine m_tk 5 false rfl rfl (by kernel_rfl) (v_move rfl) rfl rfl ?_
   refine m_split 21 rfl (fun hg21 => ?_) (fun hg21 => ?_)
   ·
    try simp only [NM] at hg21
    refine m_take_yes (j := 5) (t := 21) 6 false rfl rfl rfl rfl rfl (by kernel_rfl) (by kernel_rfl) (by kernel_rfl) (fun _ _ _ _ h => h) (v_move rfl) rfl rfl ?_
    refine m_take_yes (j := 5) (t := 21) 7 false rfl rfl rfl rfl rfl (by kernel_rfl) (by kernel_rfl) (by kernel_rfl) (fun _ _ _ _ h => h) (v_move rfl) rfl rfl ?_
    refine m_take_yes (j := 5) (t := 21) 8 false rfl rfl rfl rfl rfl (by kernel_rfl) (by kernel_rfl) (by kernel_rfl) (fun _ _ _ _ h => h) (v_indexAddr ty22 ty32 rfl rfl (by first | rfl | assumption) (by first | rfl | exact (rfl : (0 : Int) = ((0 : Nat) : Int)) | exact (Int.toNat_of_nonneg (by omega)).symm) (map_get hy) rfl) rfl rfl ?_
    refine m_take_yes (j := 5) (t := 21) 9 true rfl rfl rfl rfl rfl (by kernel_rfl) (by kernel_rfl) (by kernel_rfl) (fun _ _ _ _ h => h) (by first | exact v_load_elt ty32 rfl rfl (by first | rfl | assumption) (map_get hy) rfl rfl | exact v_load_box_all ty32 rfl rfl (by assumption) rfl rfl | exact v_load_part (cs := [_, _, _, _, _, _, _]) ty32 rfl rfl (by first | rfl | assumption) (map_get hy) rfl rfl rfl | exact v_load_box_part (cs := [_, _, _, _, _, _, _]) ty32 rfl rfl (by assumption) rfl rfl rfl) rfl rfl ?_
    refine m_one_yes (j := 5) (t := 21) 10 (by kernel_rfl) rfl rfl rfl rfl rfl ?_
    refine sm_callp rfl rfl rfl (counts32_ok _ _) ?_
    rintro _ rfl
    refine m_tk 11 false rfl rfl (by kernel_rfl) (v_pick_t rfl rfl) rfl rfl ?_
    refine m_tk 12 false rfl rfl (by kernel_rfl) (v_move rfl) rfl rfl ?_
    refine m_split 28 rfl (fun hg28 => ?_) (fun hg28 => ?_)
    ·
     try simp only [NM] at hg28
     refine m_take_yes (j := 12) (t := 28) 13 false rfl rfl rfl rfl rfl (by kernel_rfl) (by kernel_rfl) (by kernel_rfl) (fun _ _ _ _ h => h) (v_move rfl) rfl rfl ?_
     refine m_take_yes (j := 12) (t := 28) 14 false rfl rfl rfl rfl rfl (by kernel_rfl) (by kernel_rfl) (by kernel_rfl) (fun _ _ _ _ h => h) (v_move rfl) rfl rfl ?_
     refine m_take_yes (j := 12) (t := 28) 15 false rfl rfl rfl rfl rfl (by kernel_rfl) (by kernel_rfl) (by kernel_rfl) (fun _ _ _ _ h => h) (v_indexAddr ty22 ty32 rfl rfl (by first | rfl | assumption) (by first | rfl | exact (rfl : (0 : Int) = ((0 : Nat) : Int)) | exact (Int.toNat_of_nonneg (by omega)).symm) (map_get hx) rfl) rfl rfl ?_
     refine m_take_yes (j := 12) (t := 28) 16 false rfl rfl rfl rfl rfl (by kernel_rfl) (by kernel_rfl) (by kernel_rfl) (fun _ _ _ _ h => h) (by first | exact v_fieldAddr ty32 fo32_3 ty24 rfl | exact v_fieldAddr_box ty32 fo32_3 ty24 rfl) rfl rfl ?_
     refine m_take_yes (j := 12) (t := 28) 17 true rfl rfl rfl rfl rfl (by kernel_rfl) (by kernel_rfl) (by kernel_rfl) (fun _ _ _ _ h => h) (by first | exact v_load_elt ty24 rfl rfl (by first | rfl | assumption) (map_get hx) rfl rfl | exact v_load_box_all ty24 rfl rfl (by assumption) rfl rfl | exact v_load_part (cs := [_, _]) ty24 rfl rfl (by first | rfl | assumption) (map_get hx) rfl rfl rfl | exact v_load_box_part (cs := [_, _]) ty24 rfl rfl (by assumption) rfl rfl rfl) rfl rfl ?_
     refine m_take_yes (j := 12) (t := 28) 18 false rfl rfl rfl rfl rfl (by kernel_rfl) (by kernel_rfl) (by kernel_rfl) (fun _ _ _ _ h => h) (v_move rfl) rfl rfl ?_
     refine m_take_yes (j := 12) (t := 28) 19 false rfl rfl rfl rfl rfl (by kernel_rfl) (by kernel_rfl) (by kernel_rfl) (fun _ _ _ _ h => h) (v_move rfl) rfl rfl ?_
     refine m_take_yes (j := 12) (t := 28) 20 false rfl rfl rfl rfl rfl (by kernel_rfl) (by kernel_rfl) (by kernel_rfl) (fun _ _ _ _ h => h) (v_indexAddr ty22 ty32 rfl rfl (by first | rfl | assumption) (by first | rfl | exact (rfl : (0 : Int) = ((0 : Nat) : Int)) | exact (Int.toNat_of_nonneg (by omega)).symm) (map_get hy) rfl) rfl rfl ?_
     refine m_take_yes (j := 12) (t := 28) 21 false rfl rfl rfl rfl rfl (by kernel_rfl) (by kernel_rfl) (by kernel_rfl) (fun _ _ _ _ h => h) (by first | exact v_fieldAddr ty32 fo32_3 ty24 rfl | exact v_fieldAddr_box ty32 fo32_3 ty24 rfl) rfl rfl ?_
     refine m_take_yes (j := 12) (t := 28) 22 true rfl rfl rfl rfl rfl (by kernel_rfl) (by kernel_rfl) (by kernel_rfl) (fun _ _ _ _ h => h) (by first | exact v_load_elt ty24 rfl rfl (by first | rfl | assumption) (map_get hy) rfl rfl | exact v_load_box_all ty24 rfl rfl (by assumption) rfl rfl | exact v_load_part (cs := [_, _]) ty24 rfl rfl (by first | rfl | assumption) (map_get hy) rfl rfl rfl | exact v_load_box_part (cs := [_, _]) ty24 rfl rfl (by assumption) rfl rfl rfl) rfl rfl ?_
     refine m_one_yes (j := 12) (t := 28) 23 (by kernel_rfl) rfl rfl rfl rfl rfl ?_
     refine sm_callp rfl rfl rfl (spBest_ok x.sp y.sp _) ?_
     rintro _ rfl
     refine m_take_yes (j := 12) (t := 28) 24 false rfl rfl rfl rfl rfl (by kernel_rfl) (by kernel_rfl) (by kernel_rfl) (fun _ _ _ _ h => h) (v_eql rfl rfl) rfl rfl ?_
     refine m_tk 25 false rfl rfl (by kernel_rfl) (v_pick_t rfl rfl) rfl rfl ?_
     refine m_done (by kernel_rfl) ?_
     refine g_next hK10 ?_
     first | refine g_keep [0, 3, 4, 41] [] [] (keep_cons rfl (keep_cons rfl (keep_cons rfl (keep_cons rfl keep_nil)))) lkeep_nil keep_nil rfl ?_ | refine g_keep [0, 3, 4, 41] [] [] rfl rfl rfl rfl ?_
     refine g_cond rfl (fun hc41 => ?_) (fun hc41 => ?_)
     ·
      try simp only [NM] at hc41
      refine g_seq (fun K11 hK11 => ?_)
      refine g_region ?_
      refine g_step rfl (s_val (v_assign rfl) rfl rfl ?_)
      refine g_nil ?_
      refine g_next hK11 ?_
      refine g_ret ?_
      refine g_block_ret ?_
      refine g_then_ret ?_
      refine g_then_ret ?_
      refine g_block_ret ?_
      refine g_block_ret ?_
      refine g_then_ret ?_
      refine g_then_ret ?_
      refine g_block_ret ?_
      refine g_then_ret ?_
      refine g_end1 (.inl rfl) Try.results20 (.tmp rfl) [] (ASub.refl _) (AHeap.sub_refl _) (fun p hp => by cases hp) ⟨rfl, ?_⟩
      first | (rw [pairs_bad (mem_get hx) (mem_get hy) (by assumption) (by assumption) (by assumption)]; done) | (rw [pairs_bad (mem_get hx) (mem_get hy) (by assumption) (by assumption) (by assumption)]; rfl)
     ·
      try simp only [NM] at hc41
      refine g_skip ?_
      refine g_block_normal ?_
      refine g_next hK9 ?_
      refine g_region ?_
      refine g_step rfl (s_val (v_move rfl) rfl rfl ?_)
      refine g_step rfl (s_val (v_add rfl rfl (by omega)) rfl rfl ?_)
      refine g_step rfl (s_val (v_assign rfl) rfl rfl ?_)
      refine g_nil ?_
      first | refine g_keep [0, 3, 4] [] [] (keep_cons rfl (keep_cons rfl (keep_cons rfl keep_nil))) lkeep_nil keep_nil rfl ?_ | refine g_keep [0, 3, 4] [] [] rfl rfl rfl rfl ?_
      exact g_round _ (by omega) ⟨j + 1, by omega, rfl, rfl, rfl, rfl, rfl, pairs1_next hq hx hy (by simp_all)⟩
    ·
     try simp only [NM] at hg28
     refine m_take_no (j := 12) (t := 28) 13 rfl rfl rfl rfl rfl rfl (by kernel_rfl) (by kernel_rfl) (by kernel_rfl) (fun _ _ _ _ h => h) rfl rfl ?_
     refine m_take_no (j := 12) (t := 28) 14 rfl rfl rfl rfl rfl rfl (by kernel_rfl) (by kernel_rfl) (by kernel_rfl) (fun _ _ _ _ h => h) rfl rfl ?_
     refine m_take_no (j := 12) (t := 28) 15 rfl rfl rfl rfl rfl rfl (by kernel_rfl) (by kernel_rfl) (by kernel_rfl) (fun _ _ _ _ h => h) rfl rfl ?_
     refine m_take_no (j := 12) (t := 28) 16 rfl rfl rfl rfl rfl rfl (by kernel_rfl) (by kernel_rfl) (by kernel_rfl) (fun _ _ _ _ h => h) rfl rfl ?_
     refine m_take_no (j := 12) (t := 28) 17 rfl rfl rfl rfl rfl rfl (by kernel_rfl) (by kernel_rfl) (by kernel_rfl) (fun _ _ _ _ h => h) rfl rfl ?_
     refine m_take_no (j := 12) (t := 28) 18 rfl rfl rfl rfl rfl rfl (by kernel_rfl) (by kernel_rfl) (by kernel_rfl) (fun _ _ _ _ h => h) rfl rfl ?_
     refine m_take_no (j := 12) (t := 28) 19 rfl rfl rfl rfl rfl rfl (by kernel_rfl) (by kernel_rfl) (by kernel_rfl) (fun _ _ _ _ h => h) rfl rfl ?_
     refine m_take_no (j := 12) (t := 28) 20 rfl rfl rfl rfl rfl rfl (by kernel_rfl) (by kernel_rfl) (by kernel_rfl) (fun _ _ _ _ h => h) rfl rfl ?_
     refine m_take_no (j := 12) (t := 28) 21 rfl rfl rfl rfl rfl rfl (by kernel_rfl) (by kernel_rfl) (by kernel_rfl) (fun _ _ _ _ h => h) rfl rfl ?_
     refine m_take_no (j := 12) (t := 28) 22 rfl rfl rfl rfl rfl rfl (by kernel_rfl) (by kernel_rfl) (by kernel_rfl) (fun _ _ _ _ h => h) rfl rfl ?_
     refine m_take_no (j := 12) (t := 28) 23 rfl rfl rfl rfl rfl rfl (by kernel_rfl) (by kernel_rfl) (by kernel_rfl) (fun _ _ _ _ h => h) rfl rfl ?_
     refine m_take_no (j := 12) (t := 28) 24 rfl rfl rfl rfl rfl rfl (by kernel_rfl) (by kernel_rfl) (by kernel_rfl) (fun _ _ _ _ h => h) rfl rfl ?_
     refine m_tk 25 false rfl rfl (by kernel_rfl) (v_pick_f rfl rfl) rfl rfl ?_
     refine m_done (by kernel_rfl) ?_
     refine g_next hK10 ?_
     first | refine g_keep [0, 3, 4, 41] [] [] (keep_cons rfl (keep_cons rfl (keep_cons rfl (keep_cons rfl keep_nil)))) lkeep_nil keep_nil rfl ?_ | refine g_keep [0, 3, 4, 41] [] [] rfl rfl rfl rfl ?_
     refine g_cond rfl (fun h => by cases h) (fun _ => ?_)
     refine g_skip ?_
     refine g_block_normal ?_
     refine g_next hK9 ?_
     refine g_region ?_
     refine g_step rfl (s_val (v_move rfl) rfl rfl ?_)
     refine g_step rfl (s_val (v_add rfl rfl (by omega)) rfl rfl ?_)
     refine g_step rfl (s_val (v_assign rfl) rfl rfl ?_)
     refine g_nil ?_
     first | refine g_keep [0, 3, 4] [] [] (keep_cons rfl (keep_cons rfl (keep_cons rfl keep_nil))) lkeep_nil keep_nil rfl ?_ | refine g_keep [0, 3, 4] [] [] rfl rfl rfl rfl ?_
     exact g_round _ (by omega) ⟨j + 1, by omega, rfl, rfl, rfl, rfl, rfl, pairs1_next hq hx hy (by simp_all)⟩
   ·
    try simp only [NM] at hg21
    refine m_take_no (j := 5) (t := 21) 6 rfl rfl rfl rfl rfl rfl (by kernel_rfl) (by kernel_rfl) (by kernel_rfl) (fun _ _ _ _ h => h) rfl rfl ?_
    refine m_take_no (j := 5) (t := 21) 7 rfl rfl rfl rfl rfl rfl (by kernel_rfl) (by kernel_rfl) (by kernel_rfl) (fun _ _ _ _ h => h) rfl rfl ?_
    refine m_take_no (j := 5) (t := 21) 8 rfl rfl rfl rfl rfl rfl (by kernel_rfl) (by kernel_rfl) (by kernel_rfl) (fun _ _ _ _ h => h) rfl rfl ?_
    refine m_take_no (j := 5) (t := 21) 9 rfl rfl rfl rfl rfl rfl (by kernel_rfl) (by kernel_rfl) (by kernel_rfl) (fun _ _ _ _ h => h) rfl rfl ?_
    refine m_take_no (j := 5) (t := 21) 10 rfl rfl rfl rfl rfl rfl (by kernel_rfl) (by kernel_rfl) (by kernel_rfl) (fun _ _ _ _ h => h) rfl rfl ?_
    refine m_tk 11 false rfl rfl (by kernel_rfl) (v_pick_f rfl rfl) rfl rfl ?_
    refine m_tk 12 false rfl rfl (by kernel_rfl) (v_move rfl) rfl rfl ?_
    refine m_take_no (j := 12) (t := 28) 13 rfl rfl rfl rfl rfl rfl (by kernel_rfl) (by kernel_rfl) (by kernel_rfl) (fun _ _ _ _ h => h) rfl rfl ?_
    refine m_take_no (j := 12) (t := 28) 14 rfl rfl rfl rfl rfl rfl (by kernel_rfl) (by kernel_rfl) (by kernel_rfl) (fun _ _ _ _ h => h) rfl rfl ?_
    refine m_take_no (j := 12) (t := 28) 15 rfl rfl rfl rfl rfl rfl (by kernel_rfl) (by kernel_rfl) (by kernel_rfl) (fun _ _ _ _ h => h) rfl rfl ?_
    refine m_take_no (j := 12) (t := 28) 16 rfl rfl rfl rfl rfl rfl (by kernel_rfl) (by kernel_rfl) (by kernel_rfl) (fun _ _ _ _ h => h) rfl rfl ?_
    refine m_take_no (j := 12) (t := 28) 17 rfl rfl rfl rfl rfl rfl (by kernel_rfl) (by kernel_rfl) (by kernel_rfl) (fun _ _ _ _ h => h) rfl rfl ?_
    refine m_take_no (j := 12) (t := 28) 18 rfl rfl rfl rfl rfl rfl (by kernel_rfl) (by kernel_rfl) (by kernel_rfl) (fun _ _ _ _ h => h) rfl rfl ?_
    refine m_take_no (j := 12) (t := 28) 19 rfl rfl rfl rfl rfl rfl (by kernel_rfl) (by kernel_rfl) (by kernel_rfl) (fun _ _ _ _ h => h) rfl rfl ?_
    refine m_take_no (j := 12) (t := 28) 20 rfl rfl rfl rfl rfl rfl (by kernel_rfl) (by kernel_rfl) (by kernel_rfl) (fun _ _ _ _ h => h) rfl rfl ?_
    refine m_take_no (j := 12) (t := 28) 21 rfl rfl rfl rfl rfl rfl (by kernel_rfl) (by kernel_rfl) (by kernel_rfl) (fun _ _ _ _ h => h) rfl rfl ?_
    refine m_take_no (j := 12) (t := 28) 22 rfl rfl rfl rfl rfl rfl (by kernel_rfl) (by kernel_rfl) (by kernel_rfl) (fun _ _ _ _ h => h) rfl rfl ?_
    refine m_take_no (j := 12) (t := 28) 23 rfl rfl rfl rfl rfl rfl (by kernel_rfl) (by kernel_rfl) (by kernel_rfl) (fun _ _ _ _ h => h) rfl rfl ?_
    refine m_take_no (j := 12) (t := 28) 24 rfl rfl rfl rfl rfl rfl (by kernel_rfl) (by kernel_rfl) (by kernel_rfl) (fun _ _ _ _ h => h) rfl rfl ?_
    refine m_tk 25 false rfl rfl (by kernel_rfl) (v_pick_f rfl rfl) rfl rfl ?_
    refine m_done (by kernel_rfl) ?_
    refine g_next hK10 ?_
    first | refine g_keep [0, 3, 4, 41] [] [] (keep_cons rfl (keep_cons rfl (keep_cons rfl (keep_cons rfl keep_nil)))) lkeep_nil keep_nil rfl ?_ | refine g_keep [0, 3, 4, 41] [] [] rfl rfl rfl rfl ?_
    refine g_cond rfl (fun h => by cases h) (fun _ => ?_)
    refine g_skip ?_
    refine g_block_normal ?_
    refine g_next hK9 ?_
    refine g_region ?_
    refine g_step rfl (s_val (v_move rfl) rfl rfl ?_)
    refine g_step rfl (s_val (v_add rfl rfl (by omega)) rfl rfl ?_)
    refine g_step rfl (s_val (v_assign rfl) rfl rfl ?_)
    refine g_nil ?_
    first | refine g_keep [0, 3, 4] [] [] (keep_cons rfl (keep_cons rfl (keep_cons rfl keep_nil))) lkeep_nil keep_nil rfl ?_ | refine g_keep [0, 3, 4] [] [] rfl rfl rfl rfl ?_
    exact g_round _ (by omega) ⟨j + 1, by omega, rfl, rfl, rfl, rfl, rfl, pairs1_next hq hx hy (by simp_all)⟩
  ·
   try simp only [NM] at hc13
   obtain rfl : j = i + 1 := by omega
   refine g_exit ?_
   refine g_then_exit ?_
   refine g_then_exit ?_
   refine g_block_same ?_
   refine g_block_normal ?_
   refine g_next hK5 ?_
   refine g_region ?_
   refine g_step rfl (s_val (v_move rfl) rfl rfl ?_)
   refine g_step rfl (s_val (v_add rfl rfl (by omega)) rfl rfl ?_)
   refine g_step rfl (s_val (v_assign rfl) rfl rfl ?_)
   refine g_nil ?_
   first | refine g_keep [0, 3] [] [] (keep_cons rfl (keep_cons rfl keep_nil)) lkeep_nil keep_nil rfl ?_ | refine g_keep [0, 3] [] [] rfl rfl rfl rfl ?_
   exact g_round _ (by omega) ⟨i + 1, by omega, rfl, rfl, rfl, rfl, rfl, pairs_next hp hq⟩
 ·
  try simp only [NM] at hc8
  obtain rfl : i = l.length := by omega
  refine g_exit ?_
  refine g_then_exit ?_
  refine g_then_exit ?_
  refine g_block_same ?_
  refine g_next hK1 ?_
  refine g_seq (fun K12 hK12 => ?_)
  refine g_region ?_
  refine g_step rfl (s_val (v_assign rfl) rfl rfl ?_)
  refine g_nil ?_
  refine g_next hK12 ?_
  refine g_ret ?_
  refine g_end1 (.inl rfl) Try.results20 (.tmp rfl) [] (ASub.refl _) (AHeap.sub_refl _) (fun p hp => by cases hp) ⟨rfl, ?_⟩
  first | (rw [pairs_all hp]; done) | (rw [pairs_all hp]; rfl)

theorem why_ok (l : List Rc) (t : Sp) (w : Int) (G : AHeap) (hl : l.length ≤ 100000) (hs : ∀ x ∈ l, Small x.bag) : PCalls Try.prog 22 [encRs l, encSp t, .int .i64 w] G (fun v => v = .int .i64 (mayE l t w)) := by
 refine LCalls.intro 90 fi22 rfl Try.ntmps22 rfl (fun _ h => h.elim) (fun H hH w0 hw0 => ?_)
 refine g_seq (fun K0 hK0 => ?_)
 refine g_region ?_
 refine g_step rfl (s_box rfl rfl rfl rfl ?_)
 refine g_step rfl (s_val (v_assign rfl) rfl rfl ?_)
 refine g_nil ?_
 refine g_next hK0 ?_
 refine g_seq (fun K1 hK1 => ?_)
 refine g_seq (fun K2 hK2 => ?_)
 refine g_region ?_
 refine g_step rfl (s_val (v_move rfl) rfl rfl ?_)
 refine g_step rfl (s_callp rfl rfl rfl (sorted_ok l _ (by omega) hs) ?_)
 rintro _ rfl
 refine g_step rfl (s_val (v_not rfl) rfl rfl ?_)
 refine g_step rfl (s_val (v_move rfl) rfl rfl ?_)
 refine g_split 12 rfl (fun hg12 => ?_) (fun hg12 => ?_)
 ·
  try simp only [NM] at hg12
  refine g_step_no (j := 3) (t := 12) rfl rfl rfl rfl rfl rfl rfl ?_
  refine g_step_no (j := 3) (t := 12) rfl rfl rfl rfl rfl rfl rfl ?_
  refine g_step_no (j := 3) (t := 12) rfl rfl rfl rfl rfl rfl rfl ?_
  refine g_step rfl (s_val (v_pick_t rfl rfl) rfl rfl ?_)
  refine g_nil ?_
  refine g_next hK2 ?_
  refine g_cond rfl (fun _ => ?_) (fun h => by cases h)
  refine g_seq (fun K3 hK3 => ?_)
  refine g_region ?_
  refine g_step rfl (s_val (v_assign rfl) rfl rfl ?_)
  refine g_nil ?_
  refine g_next hK3 ?_
  refine g_ret ?_
  refine g_then_ret ?_
  refine g_end1 (.inl rfl) Try.results22 (.tmp rfl) [] (ASub.refl _) (AHeap.sub_refl _) (fun p hp => by cases hp) ⟨rfl, ?_⟩
  first | (rw [mayE, if_pos (by simp_all)]; done) | (rw [mayE, if_pos (by simp_all)]; rfl)
 ·
  try simp only [NM] at hg12
  refine g_step_yes (j := 3) (t := 12) rfl rfl rfl rfl (s_val (by first | exact v_loadl_all ty24 rfl rfl rfl rfl rfl | exact v_loadl_part (cs := [_, _]) ty24 rfl rfl rfl rfl rfl rfl) rfl rfl ?_)
  refine g_step_yes (j := 3) (t := 12) rfl rfl rfl rfl (s_callp rfl rfl rfl (spValid_ok t _) ?_)
  rintro _ rfl
  refine g_step_yes (j := 3) (t := 12) rfl rfl rfl rfl (s_val (v_not rfl) rfl rfl ?_)
  refine g_step rfl (s_val (v_pick_f rfl rfl) rfl rfl ?_)
  refine g_nil ?_
  refine g_next hK2 ?_
  refine g_cond rfl (fun hc16 => ?_) (fun hc16 => ?_)
  ·
   try simp only [NM] at hc16
   refine g_seq (fun K4 hK4 => ?_)
   refine g_region ?_
   refine g_step rfl (s_val (v_assign rfl) rfl rfl ?_)
   refine g_nil ?_
   refine g_next hK4 ?_
   refine g_ret ?_
   refine g_then_ret ?_
   refine g_end1 (.inl rfl) Try.results22 (.tmp rfl) [] (ASub.refl _) (AHeap.sub_refl _) (fun p hp => by cases hp) ⟨rfl, ?_⟩
   first | (rw [mayE, if_pos (by simp_all)]; done) | (rw [mayE, if_pos (by simp_all)]; rfl)
  ·
   try simp only [NM] at hc16
   refine g_skip ?_
   refine g_next hK1 ?_
   refine g_seq (fun K5 hK5 => ?_)
   refine g_seq (fun K6 hK6 => ?_)
   refine g_region ?_
   have hA : ¬ ((!srt l || !spValid t) = true) := by simp_all
   have hv : spValid t = true := by simp_all
   have hv2 : 1 ≤ t.lo ∧ t.lo ≤ t.hi ∧ t.hi ≤ 3 := by simpa [spValid] using hv
   refine g_step rfl (s_val (v_move rfl) rfl rfl ?_)
   refine g_step rfl (s_val (v_lss rfl rfl) rfl rfl ?_)
   refine g_step rfl (s_val (v_move rfl) rfl rfl ?_)
   refine g_split 19 rfl (fun hg19 => ?_) (fun hg19 => ?_)
   ·
    try simp only [NM] at hg19
    refine g_step_no (j := 2) (t := 19) rfl rfl rfl rfl rfl rfl rfl ?_
    refine g_step_no (j := 2) (t := 19) rfl rfl rfl rfl rfl rfl rfl ?_
    refine g_step rfl (s_val (v_pick_t rfl rfl) rfl rfl ?_)
    refine g_step rfl (s_val (v_move rfl) rfl rfl ?_)
    refine g_step_no (j := 6) (t := 23) rfl rfl rfl rfl rfl rfl rfl ?_
    refine g_step_no (j := 6) (t := 23) rfl rfl rfl rfl rfl rfl rfl ?_
    refine g_step_no (j := 6) (t := 23) rfl rfl rfl rfl rfl rfl rfl ?_
    refine g_step_no (j := 6) (t := 23) rfl rfl rfl rfl rfl rfl rfl ?_
    refine g_step_no (j := 6) (t := 23) rfl rfl rfl rfl rfl rfl rfl ?_
    refine g_step_no (j := 6) (t := 23) rfl rfl rfl rfl rfl rfl rfl ?_
    refine g_step_no (j := 6) (t := 23) rfl rfl rfl rfl rfl rfl rfl ?_
    refine g_step_no (j := 6) (t := 23) rfl rfl rfl rfl rfl rfl rfl ?_
    refine g_step rfl (s_val (v_pick_t rfl rfl) rfl rfl ?_)
    refine g_nil ?_
    refine g_next hK6 ?_
    first | refine g_keep [0, 2, 32] [4] [4] (keep_cons rfl (keep_cons rfl (keep_cons rfl keep_nil))) (lkeep_cons rfl lkeep_nil) (keep_cons rfl keep_nil) rfl ?_ | refine g_keep [0, 2, 32] [4] [4] rfl rfl rfl rfl ?_
    refine g_cond rfl (fun _ => ?_) (fun h => by cases h)
    refine g_seq (fun K7 hK7 => ?_)
    refine g_region ?_
    refine g_step rfl (s_val (v_assign rfl) rfl rfl ?_)
    refine g_nil ?_
    refine g_next hK7 ?_
    refine g_ret ?_
    refine g_then_ret ?_
    refine g_end1 (.inl rfl) Try.results22 (.tmp rfl) [] (ASub.refl _) (AHeap.sub_refl _) (fun p hp => by cases hp) ⟨rfl, ?_⟩
    first | (rw [mayE, if_neg hA, if_pos (by omega)]; done) | (rw [mayE, if_neg hA, if_pos (by omega)]; rfl)
   ·
    try simp only [NM] at hg19
    refine g_step_yes (j := 2) (t := 19) rfl rfl rfl rfl (s_val (v_move rfl) rfl rfl ?_)
    refine g_step_yes (j := 2) (t := 19) rfl rfl rfl rfl (s_val (v_gtr rfl rfl) rfl rfl ?_)
    refine g_step rfl (s_val (v_pick_f rfl rfl) rfl rfl ?_)
    refine g_step rfl (s_val (v_move rfl) rfl rfl ?_)
    refine g_split 23 rfl (fun hg23 => ?_) (fun hg23 => ?_)
    ·
     try simp only [NM] at hg23
     refine g_step_no (j := 6) (t := 23) rfl rfl rfl rfl rfl rfl rfl ?_
     refine g_step_no (j := 6) (t := 23) rfl rfl rfl rfl rfl rfl rfl ?_
     refine g_step_no (j := 6) (t := 23) rfl rfl rfl rfl rfl rfl rfl ?_
     refine g_step_no (j := 6) (t := 23) rfl rfl rfl rfl rfl rfl rfl ?_
     refine g_step_no (j := 6) (t := 23) rfl rfl rfl rfl rfl rfl rfl ?_
     refine g_step_no (j := 6) (t := 23) rfl rfl rfl rfl rfl rfl rfl ?_
     refine g_step_no (j := 6) (t := 23) rfl rfl rfl rfl rfl rfl rfl ?_
     refine g_step_no (j := 6) (t := 23) rfl rfl rfl rfl rfl rfl rfl ?_
     refine g_step rfl (s_val (v_pick_t rfl rfl) rfl rfl ?_)
     refine g_nil ?_
     refine g_next hK6 ?_
     first | refine g_keep [0, 2, 32] [4] [4] (keep_cons rfl (keep_cons rfl (keep_cons rfl keep_nil))) (lkeep_cons rfl lkeep_nil) (keep_cons rfl keep_nil) rfl ?_ | refine g_keep [0, 2, 32] [4] [4] rfl rfl rfl rfl ?_
     refine g_cond rfl (fun _ => ?_) (fun h => by cases h)
     refine g_seq (fun K8 hK8 => ?_)
     refine g_region ?_
     refine g_step rfl (s_val (v_assign rfl) rfl rfl ?_)
     refine g_nil ?_
     refine g_next hK8 ?_
     refine g_ret ?_
     refine g_then_ret ?_
     refine g_end1 (.inl rfl) Try.results22 (.tmp rfl) [] (ASub.refl _) (AHeap.sub_refl _) (fun p hp => by cases hp) ⟨rfl, ?_⟩
     first | (rw [mayE, if_neg hA, if_pos (by omega)]; done) | (rw [mayE, if_neg hA, if_pos (by omega)]; rfl)
    ·
     try simp only [NM] at hg23
     refine g_step_yes (j := 6) (t := 23) rfl rfl rfl rfl (s_fieldAddr ty24 fo24_1 ty3 rfl rfl ?_)
     refine g_step_yes (j := 6) (t := 23) rfl rfl rfl rfl (s_val (v_loadl ty3 rfl rfl rfl rfl) rfl rfl ?_)
     refine g_step_yes (j := 6) (t := 23) rfl rfl rfl rfl (s_fieldAddr ty24 fo24_0 ty3 rfl rfl ?_)
     refine g_step_yes (j := 6) (t := 23) rfl rfl rfl rfl (s_val (v_loadl ty3 rfl rfl rfl rfl) rfl rfl ?_)
     refine g_step_yes (j := 6) (t := 23) rfl rfl rfl rfl (s_val (v_sub_ rfl rfl (by omega)) rfl rfl ?_)
     refine g_step_yes (j := 6) (t := 23) rfl rfl rfl rfl (s_val (v_add rfl rfl (by omega)) rfl rfl ?_)
     refine g_step_yes (j := 6) (t := 23) rfl rfl rfl rfl (s_val (v_move rfl) rfl rfl ?_)
     refine g_step_yes (j := 6) (t := 23) rfl rfl rfl rfl (s_val (v_gtr rfl rfl) rfl rfl ?_)
     refine g_step rfl (s_val (v_pick_f rfl rfl) rfl rfl ?_)
     refine g_nil ?_
     refine g_next hK6 ?_
     first | refine g_keep [0, 2, 32] [4] [4] (keep_cons rfl (keep_cons rfl (keep_cons rfl keep_nil))) (lkeep_cons rfl lkeep_nil) (keep_cons rfl keep_nil) rfl ?_ | refine g_keep [0, 2, 32] [4] [4] rfl rfl rfl rfl ?_
     refine g_cond rfl (fun hc32 => ?_) (fun hc32 => ?_)
     ·
      try simp only [NM] at hc32
      refine g_seq (fun K9 hK9 => ?_)
      refine g_region ?_
      refine g_step rfl (s_val (v_assign rfl) rfl rfl ?_)
      refine g_nil ?_
      refine g_next hK9 ?_
      refine g_ret ?_
      refine g_then_ret ?_
      refine g_end1 (.inl rfl) Try.results22 (.tmp rfl) [] (ASub.refl _) (AHeap.sub_refl _) (fun p hp => by cases hp) ⟨rfl, ?_⟩
      first | (rw [mayE, if_neg hA, if_pos (by omega)]; done) | (rw [mayE, if_neg hA, if_pos (by omega)]; rfl)
     ·
      try simp only [NM] at hc32
      refine g_skip ?_
      refine g_next hK5 ?_
      refine g_seq (fun K10 hK10 => ?_)
      refine g_seq (fun K11 hK11 => ?_)
      refine g_region ?_
      have hB : ¬ (w < 1 ∨ 3 < w ∨ w ≤ t.hi - t.lo) := by omega
      refine g_step rfl (s_val (v_move rfl) rfl rfl ?_)
      refine g_step rfl (s_callp rfl rfl rfl (speak32_ok l _ (by omega)) ?_)
      rintro _ rfl
      refine g_step rfl (s_val (v_not rfl) rfl rfl ?_)
      refine g_nil ?_
      refine g_next hK11 ?_
      refine g_cond rfl (fun hc35 => ?_) (fun hc35 => ?_)
      ·
       try simp only [NM] at hc35
       refine g_seq (fun K12 hK12 => ?_)
       refine g_region ?_
       refine g_step rfl (s_val (v_assign rfl) rfl rfl ?_)
       refine g_nil ?_
       refine g_next hK12 ?_
       refine g_ret ?_
       refine g_then_ret ?_
       refine g_end1 (.inl rfl) Try.results22 (.tmp rfl) [] (ASub.refl _) (AHeap.sub_refl _) (fun p hp => by cases hp) ⟨rfl, ?_⟩
       first | (rw [mayE, if_neg hA, if_neg hB, if_pos hc35]; done) | (rw [mayE, if_neg hA, if_neg hB, if_pos hc35]; rfl)
      ·
       try simp only [NM] at hc35
       refine g_skip ?_
       refine g_next hK10 ?_
       refine g_seq (fun K13 hK13 => ?_)
       refine g_region ?_
       have hC : ¬ (speakB l = false) := by rw [hc35]; simp
       refine g_step rfl (s_val (v_assign rfl) rfl rfl ?_)
       refine g_nil ?_
       refine g_next hK13 ?_
       refine g_seq (fun K14 hK14 => ?_)
       refine g_seq (fun K15 hK15 => ?_)
       refine g_region ?_
       refine g_step rfl (s_val (v_assign rfl) rfl rfl ?_)
       refine g_nil ?_
       refine g_next hK15 ?_
       refine g_block ?_
       first | refine g_keep [0, 2, 7, 8] [4] [4] (keep_cons rfl (keep_cons rfl (keep_cons rfl (keep_cons rfl keep_nil)))) (lkeep_cons rfl lkeep_nil) (keep_cons rfl keep_nil) rfl ?_ | refine g_keep [0, 2, 7, 8] [4] [4] rfl rfl rfl rfl ?_
       refine g_loop (fun n env L B G => ∃ (k : Nat) (u : Bool), k ≤ l.length ∧ n = l.length - k ∧ env = [(0, encRs l), (2, .int .i64 w), (7, .bool u), (8, .int .i64 (k : Int))] ∧ L = [(4, 4, 0)] ∧ B = [(4, encSp t)] ∧ H = G ∧ (l.take k).any (fun r => cnt r && overP t (toMv r)) = false ∧ u = (l.take k).any (fun r => cnt r && decide (r.sp.hi < t.hi))) (l.length) ⟨0, false, Nat.zero_le _, rfl, rfl, rfl, rfl, rfl, ⟨rfl, rfl⟩⟩ (fun n env L B G hI => ?_)
       obtain ⟨k, u, hk, rfl, rfl, rfl, rfl, rfl, hov, hlo⟩ := hI
       refine g_seq (fun K16 hK16 => ?_)
       refine g_seq (fun K17 hK17 => ?_)
       refine g_region ?_
       refine g_step rfl (s_val (v_move rfl) rfl rfl ?_)
       refine g_step rfl (s_val (v_move rfl) rfl rfl ?_)
       refine g_step rfl (s_val (v_len ty22 rfl (by first | rfl | assumption) (by first | exact List.length_map .. | rfl)) rfl rfl ?_)
       refine g_step rfl (s_val (v_lss rfl rfl) rfl rfl ?_)
       refine g_nil ?_
       refine g_next hK17 ?_
       refine g_cond rfl (fun hc39 => ?_) (fun hc39 => ?_)
       ·
        try simp only [NM] at hc39
        obtain ⟨x, hx⟩ := get_some (l := l) (k := k) (by omega)
        refine g_skip ?_
        refine g_next hK16 ?_
        refine g_seq (fun K18 hK18 => ?_)
        refine g_block ?_
        refine g_cut (fun env L B G => env = [(0, encRs l), (2, .int .i64 w), (7, .bool u), (8, .int .i64 (k : Int))] ∧ L = [(4, 4, 0)] ∧ B = [(4, encSp t)] ∧ H = G ∧ (cnt x && overP t (toMv x)) = false) ?_ (fun env L B G hI => ?_)
        ·
         refine g_seq (fun K19 hK19 => ?_)
         refine g_draw (n := 27) (fun j => !([] : List Nat).contains j) rfl rfl ?_
         refine m_tk 0 false rfl rfl (by kernel_rfl) (v_move rfl) rfl rfl ?_
         refine m_tk 1 false rfl rfl (by kernel_rfl) (v_move rfl) rfl rfl ?_
         refine m_tk 2 false rfl rfl (by kernel_rfl) (v_indexAddr ty22 ty32 rfl rfl (by first | rfl | assumption) (by first | rfl | exact (rfl : (0 : Int) = ((0 : Nat) : Int)) | exact (Int.toNat_of_nonneg (by omega)).symm) (map_get hx) rfl) rfl rfl ?_
         refine m_tk 3 true rfl rfl (by kernel_rfl) (by first | exact v_load_elt ty32 rfl rfl (by first | rfl | assumption) (by first | assumption | exact map_get (by assumption) | rfl) rfl rfl | exact v_load_box_all ty32 rfl rfl (by assumption) rfl rfl | exact v_load_part (cs := [_, _, _, _, _, _, _]) ty32 rfl rfl (by first | rfl | assumption) (by first | assumption | exact map_get (by assumption) | rfl) rfl rfl rfl | exact v_load_box_part (cs := [_, _, _, _, _, _, _]) ty32 rfl rfl (by assumption) rfl rfl rfl) rfl rfl ?_
         refine m_one 4 (by kernel_rfl) rfl rfl ?_
         refine sm_callp rfl rfl rfl (counts32_ok _ _) ?_
         rintro _ rfl
         refine m_tk 5 false rfl rfl (by kernel_rfl) (v_move rfl) rfl rfl ?_
         refine m_split 47 rfl (fun hg47 => ?_) (fun hg47 => ?_)
         ·
          try simp only [NM] at hg47
          refine m_take_yes (j := 5) (t := 47) 6 false rfl rfl rfl rfl rfl (by kernel_rfl) (by kernel_rfl) (by kernel_rfl) (fun _ _ _ _ h => h) (v_move rfl) rfl rfl ?_
          refine m_take_yes (j := 5) (t := 47) 7 false rfl rfl rfl rfl rfl (by kernel_rfl) (by kernel_rfl) (by kernel_rfl) (fun _ _ _ _ h => h) (v_move rfl) rfl rfl ?_
          refine m_take_yes (j := 5) (t := 47) 8 false rfl rfl rfl rfl rfl (by kernel_rfl) (by kernel_rfl) (by kernel_rfl) (fun _ _ _ _ h => h) (v_indexAddr ty22 ty32 rfl rfl (by first | rfl | assumption) (by first | rfl | exact (rfl : (0 : Int) = ((0 : Nat) : Int)) | exact (Int.toNat_of_nonneg (by omega)).symm) (by first | assumption | exact map_get (by assumption) | rfl) rfl) rfl rfl ?_
          refine m_take_yes (j := 5) (t := 47) 9 false rfl rfl rfl rfl rfl (by kernel_rfl) (by kernel_rfl) (by kernel_rfl) (fun _ _ _ _ h => h) (by first | exact v_fieldAddr ty32 fo32_3 ty24 rfl | exact v_fieldAddr_box ty32 fo32_3 ty24 rfl) rfl rfl ?_
          refine m_take_yes (j := 5) (t := 47) 10 false rfl rfl rfl rfl rfl (by kernel_rfl) (by kernel_rfl) (by kernel_rfl) (fun _ _ _ _ h => h) (by first | exact v_fieldAddr ty24 fo24_0 ty3 rfl | exact v_fieldAddr_box ty24 fo24_0 ty3 rfl) rfl rfl ?_
          refine m_take_yes (j := 5) (t := 47) 11 true rfl rfl rfl rfl rfl (by kernel_rfl) (by kernel_rfl) (by kernel_rfl) (fun _ _ _ _ h => h) (by first | exact v_load ty3 rfl rfl (by first | rfl | assumption) (by first | assumption | exact map_get (by assumption) | rfl) rfl | exact v_load_box ty3 rfl rfl (by assumption) rfl) rfl rfl ?_
          refine m_takel_yes (j := 5) (t := 47) 12 rfl rfl rfl rfl rfl (by kernel_rfl) (by kernel_rfl) (by kernel_rfl) (fun _ _ _ _ h => h) (vl_fieldAddr ty24 fo24_0 ty3 rfl) rfl rfl ?_
          refine m_take_yes (j := 5) (t := 47) 13 true rfl rfl rfl rfl rfl (by kernel_rfl) (by kernel_rfl) (by kernel_rfl) (fun _ _ _ _ h => h) (v_loadl ty3 rfl rfl rfl rfl) rfl rfl ?_
          refine m_take_yes (j := 5) (t := 47) 14 false rfl rfl rfl rfl rfl (by kernel_rfl) (by kernel_rfl) (by kernel_rfl) (fun _ _ _ _ h => h) (v_gtr rfl rfl) rfl rfl ?_
          refine m_take_yes (j := 5) (t := 47) 15 false rfl rfl rfl rfl rfl (by kernel_rfl) (by kernel_rfl) (by kernel_rfl) (fun _ _ _ _ h => h) (v_move rfl) rfl rfl ?_
          refine m_split 57 rfl (fun hg57 => ?_) (fun hg57 => ?_)
          ·
           try simp only [NM] at hg57
           refine m_take_no (j := 15) (t := 57) 16 rfl rfl rfl rfl rfl rfl (by kernel_rfl) (by kernel_rfl) (by kernel_rfl) (fun _ _ _ _ h => h) rfl rfl ?_
           refine m_take_no (j := 15) (t := 57) 17 rfl rfl rfl rfl rfl rfl (by kernel_rfl) (by kernel_rfl) (by kernel_rfl) (fun _ _ _ _ h => h) rfl rfl ?_
           refine m_take_no (j := 15) (t := 57) 18 rfl rfl rfl rfl rfl rfl (by kernel_rfl) (by kernel_rfl) (by kernel_rfl) (fun _ _ _ _ h => h) rfl rfl ?_
           refine m_take_no (j := 15) (t := 57) 19 rfl rfl rfl rfl rfl rfl (by kernel_rfl) (by kernel_rfl) (by kernel_rfl) (fun _ _ _ _ h => h) rfl rfl ?_
           refine m_take_no (j := 15) (t := 57) 20 rfl rfl rfl rfl rfl rfl (by kernel_rfl) (by kernel_rfl) (by kernel_rfl) (fun _ _ _ _ h => h) rfl rfl ?_
           refine m_take_no (j := 15) (t := 57) 21 rfl rfl rfl rfl rfl rfl (by kernel_rfl) (by kernel_rfl) (by kernel_rfl) (fun _ _ _ _ h => h) rfl rfl ?_
           refine m_take_no (j := 15) (t := 57) 22 rfl rfl rfl rfl rfl rfl (by kernel_rfl) (by kernel_rfl) (by kernel_rfl) (fun _ _ _ _ h => h) rfl rfl ?_
           refine m_take_no (j := 15) (t := 57) 23 rfl rfl rfl rfl rfl rfl (by kernel_rfl) (by kernel_rfl) (by kernel_rfl) (fun _ _ _ _ h => h) rfl rfl ?_
           refine m_take_no (j := 15) (t := 57) 24 rfl rfl rfl rfl rfl rfl (by kernel_rfl) (by kernel_rfl) (by kernel_rfl) (fun _ _ _ _ h => h) rfl rfl ?_
           refine m_take_yes (j := 5) (t := 47) 25 false rfl rfl rfl rfl rfl (by kernel_rfl) (by kernel_rfl) (by kernel_rfl) (fun _ _ _ _ h => h) (v_pick_t rfl rfl) rfl rfl ?_
           refine m_tk 26 false rfl rfl (by kernel_rfl) (v_pick_t rfl rfl) rfl rfl ?_
           refine m_done (by kernel_rfl) ?_
           refine g_next hK19 ?_
           first | refine g_keep [0, 2, 7, 8, 68] [4] [4] (keep_cons rfl (keep_cons rfl (keep_cons rfl (keep_cons rfl (keep_cons rfl keep_nil))))) (lkeep_cons rfl lkeep_nil) (keep_cons rfl keep_nil) rfl ?_ | refine g_keep [0, 2, 7, 8, 68] [4] [4] rfl rfl rfl rfl ?_
           refine g_cond rfl (fun _ => ?_) (fun h => by cases h)
           refine g_seq (fun K20 hK20 => ?_)
           refine g_region ?_
           refine g_step rfl (s_val (v_assign rfl) rfl rfl ?_)
           refine g_nil ?_
           refine g_next hK20 ?_
           refine g_ret ?_
           refine g_then_ret ?_
           refine g_block_ret ?_
           refine g_then_ret ?_
           refine g_then_ret ?_
           refine g_block_ret ?_
           refine g_then_ret ?_
           refine g_end1 (.inl rfl) Try.results22 (.tmp rfl) [] (ASub.refl _) (AHeap.sub_refl _) (fun p hp => by cases hp) ⟨rfl, ?_⟩
           first | (rw [mayE, if_neg hA, if_neg hB, if_neg hC, membs_any, if_pos (any_stop hx (by simp_all [overP, toMv]))]; done) | (rw [mayE, if_neg hA, if_neg hB, if_neg hC, membs_any, if_pos (any_stop hx (by simp_all [overP, toMv]))]; rfl)
          ·
           try simp only [NM] at hg57
           refine m_take_yes (j := 15) (t := 57) 16 false rfl rfl rfl rfl rfl (by kernel_rfl) (by kernel_rfl) (by kernel_rfl) (fun _ _ _ _ h => h) (v_move rfl) rfl rfl ?_
           refine m_take_yes (j := 15) (t := 57) 17 false rfl rfl rfl rfl rfl (by kernel_rfl) (by kernel_rfl) (by kernel_rfl) (fun _ _ _ _ h => h) (v_move rfl) rfl rfl ?_
           refine m_take_yes (j := 15) (t := 57) 18 false rfl rfl rfl rfl rfl (by kernel_rfl) (by kernel_rfl) (by kernel_rfl) (fun _ _ _ _ h => h) (v_indexAddr ty22 ty32 rfl rfl (by first | rfl | assumption) (by first | rfl | exact (rfl : (0 : Int) = ((0 : Nat) : Int)) | exact (Int.toNat_of_nonneg (by omega)).symm) (by first | assumption | exact map_get (by assumption) | rfl) rfl) rfl rfl ?_
           refine m_take_yes (j := 15) (t := 57) 19 false rfl rfl rfl rfl rfl (by kernel_rfl) (by kernel_rfl) (by kernel_rfl) (fun _ _ _ _ h => h) (by first | exact v_fieldAddr ty32 fo32_3 ty24 rfl | exact v_fieldAddr_box ty32 fo32_3 ty24 rfl) rfl rfl ?_
           refine m_take_yes (j := 15) (t := 57) 20 false rfl rfl rfl rfl rfl (by kernel_rfl) (by kernel_rfl) (by kernel_rfl) (fun _ _ _ _ h => h) (by first | exact v_fieldAddr ty24 fo24_1 ty3 rfl | exact v_fieldAddr_box ty24 fo24_1 ty3 rfl) rfl rfl ?_
           refine m_take_yes (j := 15) (t := 57) 21 true rfl rfl rfl rfl rfl (by kernel_rfl) (by kernel_rfl) (by kernel_rfl) (fun _ _ _ _ h => h) (by first | exact v_load ty3 rfl rfl (by first | rfl | assumption) (by first | assumption | exact map_get (by assumption) | rfl) rfl | exact v_load_box ty3 rfl rfl (by assumption) rfl) rfl rfl ?_
           refine m_takel_yes (j := 15) (t := 57) 22 rfl rfl rfl rfl rfl (by kernel_rfl) (by kernel_rfl) (by kernel_rfl) (fun _ _ _ _ h => h) (vl_fieldAddr ty24 fo24_1 ty3 rfl) rfl rfl ?_
           refine m_take_yes (j := 15) (t := 57) 23 true rfl rfl rfl rfl rfl (by kernel_rfl) (by kernel_rfl) (by kernel_rfl) (fun _ _ _ _ h => h) (v_loadl ty3 rfl rfl rfl rfl) rfl rfl ?_
           refine m_take_yes (j := 15) (t := 57) 24 false rfl rfl rfl rfl rfl (by kernel_rfl) (by kernel_rfl) (by kernel_rfl) (fun _ _ _ _ h => h) (v_gtr rfl rfl) rfl rfl ?_
           refine m_take_yes (j := 5) (t := 47) 25 false rfl rfl rfl rfl rfl (by kernel_rfl) (by kernel_rfl) (by kernel_rfl) (fun _ _ _ _ h => h) (v_pick_f rfl rfl) rfl rfl ?_
           refine m_tk 26 false rfl rfl (by kernel_rfl) (v_pick_t rfl rfl) rfl rfl ?_
           refine m_done (by kernel_rfl) ?_
           refine g_next hK19 ?_
           first | refine g_keep [0, 2, 7, 8, 68] [4] [4] (keep_cons rfl (keep_cons rfl (keep_cons rfl (keep_cons rfl (keep_cons rfl keep_nil))))) (lkeep_cons rfl lkeep_nil) (keep_cons rfl keep_nil) rfl ?_ | refine g_keep [0, 2, 7, 8, 68] [4] [4] rfl rfl rfl rfl ?_
           refine g_cond rfl (fun hc68 => ?_) (fun hc68 => ?_)
           ·
            try simp only [NM] at hc68
            refine g_seq (fun K21 hK21 => ?_)
            refine g_region ?_
            refine g_step rfl (s_val (v_assign rfl) rfl rfl ?_)
            refine g_nil ?_
            refine g_next hK21 ?_
            refine g_ret ?_
            refine g_then_ret ?_
            refine g_block_ret ?_
            refine g_then_ret ?_
            refine g_then_ret ?_
            refine g_block_ret ?_
            refine g_then_ret ?_
            refine g_end1 (.inl rfl) Try.results22 (.tmp rfl) [] (ASub.refl _) (AHeap.sub_refl _) (fun p hp => by cases hp) ⟨rfl, ?_⟩
            first | (rw [mayE, if_neg hA, if_neg hB, if_neg hC, membs_any, if_pos (any_stop hx (by simp_all [overP, toMv]))]; done) | (rw [mayE, if_neg hA, if_neg hB, if_neg hC, membs_any, if_pos (any_stop hx (by simp_all [overP, toMv]))]; rfl)
           ·
            try simp only [NM] at hc68
            refine g_skip ?_
            first | refine g_keep [0, 2, 7, 8] [4] [4] (keep_cons rfl (keep_cons rfl (keep_cons rfl (keep_cons rfl keep_nil)))) (lkeep_cons rfl lkeep_nil) (keep_cons rfl keep_nil) rfl ?_ | refine g_keep [0, 2, 7, 8] [4] [4] rfl rfl rfl rfl ?_
            exact g_has ⟨rfl, rfl, rfl, rfl, by first | (rw [show cnt x = false from by assumption]; rfl) | (rw [overP_no (by omega) (by omega), Bool.and_false])⟩
         ·
          try simp only [NM] at hg47
          refine m_take_no (j := 5) (t := 47) 6 rfl rfl rfl rfl rfl rfl (by kernel_rfl) (by kernel_rfl) (by kernel_rfl) (fun _ _ _ _ h => h) rfl rfl ?_
          refine m_take_no (j := 5) (t := 47) 7 rfl rfl rfl rfl rfl rfl (by kernel_rfl) (by kernel_rfl) (by kernel_rfl) (fun _ _ _ _ h => h) rfl rfl ?_
          refine m_take_no (j := 5) (t := 47) 8 rfl rfl rfl rfl rfl rfl (by kernel_rfl) (by kernel_rfl) (by kernel_rfl) (fun _ _ _ _ h => h) rfl rfl ?_
          refine m_take_no (j := 5) (t := 47) 9 rfl rfl rfl rfl rfl rfl (by kernel_rfl) (by kernel_rfl) (by kernel_rfl) (fun _ _ _ _ h => h) rfl rfl ?_
          refine m_take_no (j := 5) (t := 47) 10 rfl rfl rfl rfl rfl rfl (by kernel_rfl) (by kernel_rfl) (by kernel_rfl) (fun _ _ _ _ h => h) rfl rfl ?_
          refine m_take_no (j := 5) (t := 47) 11 rfl rfl rfl rfl rfl rfl (by kernel_rfl) (by kernel_rfl) (by kernel_rfl) (fun _ _ _ _ h => h) rfl rfl ?_
          refine m_take_no (j := 5) (t := 47) 12 rfl rfl rfl rfl rfl rfl (by kernel_rfl) (by kernel_rfl) (by kernel_rfl) (fun _ _ _ _ h => h) rfl rfl ?_
          refine m_take_no (j := 5) (t := 47) 13 rfl rfl rfl rfl rfl rfl (by kernel_rfl) (by kernel_rfl) (by kernel_rfl) (fun _ _ _ _ h => h) rfl rfl ?_
          refine m_take_no (j := 5) (t := 47) 14 rfl rfl rfl rfl rfl rfl (by kernel_rfl) (by kernel_rfl) (by kernel_rfl) (fun _ _ _ _ h => h) rfl rfl ?_
          refine m_take_no (j := 5) (t := 47) 15 rfl rfl rfl rfl rfl rfl (by kernel_rfl) (by kernel_rfl) (by kernel_rfl) (fun _ _ _ _ h => h) rfl rfl ?_
          refine m_take_und (j := 15) (t := 57) 16 rfl rfl rfl rfl rfl (by kernel_rfl) (by kernel_rfl) (by kernel_rfl) (fun _ _ _ _ h => h) rfl rfl ?_
          refine m_take_und (j := 15) (t := 57) 17 rfl rfl rfl rfl rfl (by kernel_rfl) (by kernel_rfl) (by kernel_rfl) (fun _ _ _ _ h => h) rfl rfl ?_
          refine m_take_und (j := 15) (t := 57) 18 rfl rfl rfl rfl rfl (by kernel_rfl) (by kernel_rfl) (by kernel_rfl) (fun _ _ _ _ h => h) rfl rfl ?_
          refine m_take_und (j := 15) (t := 57) 19 rfl rfl rfl rfl rfl (by kernel_rfl) (by kernel_rfl) (by kernel_rfl) (fun _ _ _ _ h => h) rfl rfl ?_
          refine m_take_und (j := 15) (t := 57) 20 rfl rfl rfl rfl rfl (by kernel_rfl) (by kernel_rfl) (by kernel_rfl) (fun _ _ _ _ h => h) rfl rfl ?_
          refine m_take_und (j := 15) (t := 57) 21 rfl rfl rfl rfl rfl (by kernel_rfl) (by kernel_rfl) (by kernel_rfl) (fun _ _ _ _ h => h) rfl rfl ?_
          refine m_take_und (j := 15) (t := 57) 22 rfl rfl rfl rfl rfl (by kernel_rfl) (by kernel_rfl) (by kernel_rfl) (fun _ _ _ _ h => h) rfl rfl ?_
          refine m_take_und (j := 15) (t := 57) 23 rfl rfl rfl rfl rfl (by kernel_rfl) (by kernel_rfl) (by kernel_rfl) (fun _ _ _ _ h => h) rfl rfl ?_
          refine m_take_und (j := 15) (t := 57) 24 rfl rfl rfl rfl rfl (by kernel_rfl) (by kernel_rfl) (by kernel_rfl) (fun _ _ _ _ h => h) rfl rfl ?_
          refine m_take_no (j := 5) (t := 47) 25 rfl rfl rfl rfl rfl rfl (by kernel_rfl) (by kernel_rfl) (by kernel_rfl) (fun _ _ _ _ h => h) rfl rfl ?_
          refine m_tk 26 false rfl rfl (by kernel_rfl) (v_pick_f rfl rfl) rfl rfl ?_
          refine m_done (by kernel_rfl) ?_
          refine g_next hK19 ?_
          first | refine g_keep [0, 2, 7, 8, 68] [4] [4] (keep_cons rfl (keep_cons rfl (keep_cons rfl (keep_cons rfl (keep_cons rfl keep_nil))))) (lkeep_cons rfl lkeep_nil) (keep_cons rfl keep_nil) rfl ?_ | refine g_keep [0, 2, 7, 8, 68] [4] [4] rfl rfl rfl rfl ?_
          refine g_cond rfl (fun h => by cases h) (fun _ => ?_)
          refine g_skip ?_
          first | refine g_keep [0, 2, 7, 8] [4] [4] (keep_cons rfl (keep_cons rfl (keep_cons rfl (keep_cons rfl keep_nil)))) (lkeep_cons rfl lkeep_nil) (keep_cons rfl keep_nil) rfl ?_ | refine g_keep [0, 2, 7, 8] [4] [4] rfl rfl rfl rfl ?_
          exact g_has ⟨rfl, rfl, rfl, rfl, by first | (rw [show cnt x = false from by assumption]; rfl) | (rw [overP_no (by omega) (by omega), Bool.and_false])⟩
        ·
         obtain ⟨rfl, rfl, rfl, rfl, hxo⟩ := hI
         refine g_seq (fun K22 hK22 => ?_)
         refine g_draw (n := 16) (fun j => !([] : List Nat).contains j) rfl rfl ?_
         refine m_tk 0 false rfl rfl (by kernel_rfl) (v_move rfl) rfl rfl ?_
         refine m_tk 1 false rfl rfl (by kernel_rfl) (v_move rfl) rfl rfl ?_
         refine m_tk 2 false rfl rfl (by kernel_rfl) (v_indexAddr ty22 ty32 rfl rfl (by first | rfl | assumption) (by first | rfl | exact (rfl : (0 : Int) = ((0 : Nat) : Int)) | exact (Int.toNat_of_nonneg (by omega)).symm) (by first | assumption | exact map_get (by assumption) | rfl) rfl) rfl rfl ?_
         refine m_tk 3 true rfl rfl (by kernel_rfl) (by first | exact v_load_elt ty32 rfl rfl (by first | rfl | assumption) (by first | assumption | exact map_get (by assumption) | rfl) rfl rfl | exact v_load_box_all ty32 rfl rfl (by assumption) rfl rfl | exact v_load_part (cs := [_, _, _, _, _, _, _]) ty32 rfl rfl (by first | rfl | assumption) (by first | assumption | exact map_get (by assumption) | rfl) rfl rfl rfl | exact v_load_box_part (cs := [_, _, _, _, _, _, _]) ty32 rfl rfl (by assumption) rfl rfl rfl) rfl rfl ?_
         refine m_one 4 (by kernel_rfl) rfl rfl ?_
         refine sm_callp rfl rfl rfl (counts32_ok _ _) ?_
         rintro _ rfl
         refine m_tk 5 false rfl rfl (by kernel_rfl) (v_move rfl) rfl rfl ?_
         refine m_split 74 rfl (fun hg74 => ?_) (fun hg74 => ?_)
         ·
          try simp only [NM] at hg74
          refine m_take_yes (j := 5) (t := 74) 6 false rfl rfl rfl rfl rfl (by kernel_rfl) (by kernel_rfl) (by kernel_rfl) (fun _ _ _ _ h => h) (v_move rfl) rfl rfl ?_
          refine m_take_yes (j := 5) (t := 74) 7 false rfl rfl rfl rfl rfl (by kernel_rfl) (by kernel_rfl) (by kernel_rfl) (fun _ _ _ _ h => h) (v_move rfl) rfl rfl ?_
          refine m_take_yes (j := 5) (t := 74) 8 false rfl rfl rfl rfl rfl (by kernel_rfl) (by kernel_rfl) (by kernel_rfl) (fun _ _ _ _ h => h) (v_indexAddr ty22 ty32 rfl rfl (by first | rfl | assumption) (by first | rfl | exact (rfl : (0 : Int) = ((0 : Nat) : Int)) | exact (Int.toNat_of_nonneg (by omega)).symm) (by first | assumption | exact map_get (by assumption) | rfl) rfl) rfl rfl ?_
          refine m_take_yes (j := 5) (t := 74) 9 false rfl rfl rfl rfl rfl (by kernel_rfl) (by kernel_rfl) (by kernel_rfl) (fun _ _ _ _ h => h) (by first | exact v_fieldAddr ty32 fo32_3 ty24 rfl | exact v_fieldAddr_box ty32 fo32_3 ty24 rfl) rfl rfl ?_
          refine m_take_yes (j := 5) (t := 74) 10 false rfl rfl rfl rfl rfl (by kernel_rfl) (by kernel_rfl) (by kernel_rfl) (fun _ _ _ _ h => h) (by first | exact v_fieldAddr ty24 fo24_1 ty3 rfl | exact v_fieldAddr_box ty24 fo24_1 ty3 rfl) rfl rfl ?_
          refine m_take_yes (j := 5) (t := 74) 11 true rfl rfl rfl rfl rfl (by kernel_rfl) (by kernel_rfl) (by kernel_rfl) (fun _ _ _ _ h => h) (by first | exact v_load ty3 rfl rfl (by first | rfl | assumption) (by first | assumption | exact map_get (by assumption) | rfl) rfl | exact v_load_box ty3 rfl rfl (by assumption) rfl) rfl rfl ?_
          refine m_takel_yes (j := 5) (t := 74) 12 rfl rfl rfl rfl rfl (by kernel_rfl) (by kernel_rfl) (by kernel_rfl) (fun _ _ _ _ h => h) (vl_fieldAddr ty24 fo24_1 ty3 rfl) rfl rfl ?_
          refine m_take_yes (j := 5) (t := 74) 13 true rfl rfl rfl rfl rfl (by kernel_rfl) (by kernel_rfl) (by kernel_rfl) (fun _ _ _ _ h => h) (v_loadl ty3 rfl rfl rfl rfl) rfl rfl ?_
          refine m_take_yes (j := 5) (t := 74) 14 false rfl rfl rfl rfl rfl (by kernel_rfl) (by kernel_rfl) (by kernel_rfl) (fun _ _ _ _ h => h) (v_lss rfl rfl) rfl rfl ?_
          refine m_tk 15 false rfl rfl (by kernel_rfl) (v_pick_t rfl rfl) rfl rfl ?_
          refine m_done (by kernel_rfl) ?_
          refine g_next hK22 ?_
          refine g_cond rfl (fun hc84 => ?_) (fun hc84 => ?_)
          ·
           try simp only [NM] at hc84
           refine g_region ?_
           refine g_step rfl (s_val (v_assign rfl) rfl rfl ?_)
           refine g_nil ?_
           refine g_block_normal ?_
           refine g_next hK18 ?_
           refine g_region ?_
           refine g_step rfl (s_val (v_move rfl) rfl rfl ?_)
           refine g_step rfl (s_val (v_add rfl rfl (by omega)) rfl rfl ?_)
           refine g_step rfl (s_val (v_assign rfl) rfl rfl ?_)
           refine g_nil ?_
           first | refine g_keep [0, 2, 7, 8] [4] [4] (keep_cons rfl (keep_cons rfl (keep_cons rfl (keep_cons rfl keep_nil)))) (lkeep_cons rfl lkeep_nil) (keep_cons rfl keep_nil) rfl ?_ | refine g_keep [0, 2, 7, 8] [4] [4] rfl rfl rfl rfl ?_
           first | exact g_round _ (by omega) ⟨k + 1, true, by omega, rfl, rfl, rfl, rfl, rfl, ⟨by rw [any_snoc hx, hov, hxo]; rfl, by rw [any_snoc hx, ← hlo, show (cnt x && decide (x.sp.hi < t.hi)) = true from by rw [hg74, decide_eq_true (by omega)]; rfl, Bool.or_true]⟩⟩ | exact g_round _ (by omega) ⟨k + 1, u, by omega, rfl, rfl, rfl, rfl, rfl, ⟨by rw [any_snoc hx, hov, hxo]; rfl, by rw [any_snoc hx, ← hlo, show (cnt x && decide (x.sp.hi < t.hi)) = false from by first | (rw [show cnt x = false from by assumption]; rfl) | (rw [decide_eq_false (by omega), Bool.and_false]), Bool.or_false]⟩⟩
          ·
           try simp only [NM] at hc84
           refine g_skip ?_
           refine g_block_normal ?_
           refine g_next hK18 ?_
           refine g_region ?_
           refine g_step rfl (s_val (v_move rfl) rfl rfl ?_)
           refine g_step rfl (s_val (v_add rfl rfl (by omega)) rfl rfl ?_)
           refine g_step rfl (s_val (v_assign rfl) rfl rfl ?_)
           refine g_nil ?_
           first | refine g_keep [0, 2, 7, 8] [4] [4] (keep_cons rfl (keep_cons rfl (keep_cons rfl (keep_cons rfl keep_nil)))) (lkeep_cons rfl lkeep_nil) (keep_cons rfl keep_nil) rfl ?_ | refine g_keep [0, 2, 7, 8] [4] [4] rfl rfl rfl rfl ?_
           first | exact g_round _ (by omega) ⟨k + 1, true, by omega, rfl, rfl, rfl, rfl, rfl, ⟨by rw [any_snoc hx, hov, hxo]; rfl, by rw [any_snoc hx, ← hlo, show (cnt x && decide (x.sp.hi < t.hi)) = true from by rw [hg74, decide_eq_true (by omega)]; rfl, Bool.or_true]⟩⟩ | exact g_round _ (by omega) ⟨k + 1, u, by omega, rfl, rfl, rfl, rfl, rfl, ⟨by rw [any_snoc hx, hov, hxo]; rfl, by rw [any_snoc hx, ← hlo, show (cnt x && decide (x.sp.hi < t.hi)) = false from by first | (rw [show cnt x = false from by assumption]; rfl) | (rw [decide_eq_false (by omega), Bool.and_false]), Bool.or_false]⟩⟩
         ·
          try simp only [NM] at hg74
          refine m_take_no (j := 5) (t := 74) 6 rfl rfl rfl rfl rfl rfl (by kernel_rfl) (by kernel_rfl) (by kernel_rfl) (fun _ _ _ _ h => h) rfl rfl ?_
          refine m_take_no (j := 5) (t := 74) 7 rfl rfl rfl rfl rfl rfl (by kernel_rfl) (by kernel_rfl) (by kernel_rfl) (fun _ _ _ _ h => h) rfl rfl ?_
          refine m_take_no (j := 5) (t := 74) 8 rfl rfl rfl rfl rfl rfl (by kernel_rfl) (by kernel_rfl) (by kernel_rfl) (fun _ _ _ _ h => h) rfl rfl ?_
          refine m_take_no (j := 5) (t := 74) 9 rfl rfl rfl rfl rfl rfl (by kernel_rfl) (by kernel_rfl) (by kernel_rfl) (fun _ _ _ _ h => h) rfl rfl ?_
          refine m_take_no (j := 5) (t := 74) 10 rfl rfl rfl rfl rfl rfl (by kernel_rfl) (by kernel_rfl) (by kernel_rfl) (fun _ _ _ _ h => h) rfl rfl ?_
          refine m_take_no (j := 5) (t := 74) 11 rfl rfl rfl rfl rfl rfl (by kernel_rfl) (by kernel_rfl) (by kernel_rfl) (fun _ _ _ _ h => h) rfl rfl ?_
          refine m_take_no (j := 5) (t := 74) 12 rfl rfl rfl rfl rfl rfl (by kernel_rfl) (by kernel_rfl) (by kernel_rfl) (fun _ _ _ _ h => h) rfl rfl ?_
          refine m_take_no (j := 5) (t := 74) 13 rfl rfl rfl rfl rfl rfl (by kernel_rfl) (by kernel_rfl) (by kernel_rfl) (fun _ _ _ _ h => h) rfl rfl ?_
          refine m_take_no (j := 5) (t := 74) 14 rfl rfl rfl rfl rfl rfl (by kernel_rfl) (by kernel_rfl) (by kernel_rfl) (fun _ _ _ _ h => h) rfl rfl ?_
          refine m_tk 15 false rfl rfl (by kernel_rfl) (v_pick_f rfl rfl) rfl rfl ?_
          refine m_done (by kernel_rfl) ?_
          refine g_next hK22 ?_
          refine g_cond rfl (fun h => by cases h) (fun _ => ?_)
          refine g_skip ?_
          refine g_block_normal ?_
          refine g_next hK18 ?_
          refine g_region ?_
          refine g_step rfl (s_val (v_move rfl) rfl rfl ?_)
          refine g_step rfl (s_val (v_add rfl rfl (by omega)) rfl rfl ?_)
          refine g_step rfl (s_val (v_assign rfl) rfl rfl ?_)
          refine g_nil ?_
          first | refine g_keep [0, 2, 7, 8] [4] [4] (keep_cons rfl (keep_cons rfl (keep_cons rfl (keep_cons rfl keep_nil)))) (lkeep_cons rfl lkeep_nil) (keep_cons rfl keep_nil) rfl ?_ | refine g_keep [0, 2, 7, 8] [4] [4] rfl rfl rfl rfl ?_
          first | exact g_round _ (by omega) ⟨k + 1, true, by omega, rfl, rfl, rfl, rfl, rfl, ⟨by rw [any_snoc hx, hov, hxo]; rfl, by rw [any_snoc hx, ← hlo, show (cnt x && decide (x.sp.hi < t.hi)) = true from by rw [hg74, decide_eq_true (by omega)]; rfl, Bool.or_true]⟩⟩ | exact g_round _ (by omega) ⟨k + 1, u, by omega, rfl, rfl, rfl, rfl, rfl, ⟨by rw [any_snoc hx, hov, hxo]; rfl, by rw [any_snoc hx, ← hlo, show (cnt x && decide (x.sp.hi < t.hi)) = false from by first | (rw [show cnt x = false from by assumption]; rfl) | (rw [decide_eq_false (by omega), Bool.and_false]), Bool.or_false]⟩⟩
       ·
        try simp only [NM] at hc39
        obtain rfl : k = l.length := by omega
        rw [List.take_length] at hov hlo
        have hop := open_any (l := l) (isGate_hi hv)
        rw [← hlo] at hop
        rw [← membs_any] at hov
        refine g_exit ?_
        refine g_then_exit ?_
        refine g_then_exit ?_
        refine g_block_same ?_
        refine g_next hK14 ?_
        refine g_seq (fun K23 hK23 => ?_)
        refine g_seq (fun K24 hK24 => ?_)
        refine g_region ?_
        refine g_step rfl (s_val (v_move rfl) rfl rfl ?_)
        refine g_step rfl (s_val (v_eql rfl rfl) rfl rfl ?_)
        refine g_step rfl (s_val (v_move rfl) rfl rfl ?_)
        refine g_split 87 rfl (fun hg87 => ?_) (fun hg87 => ?_)
        ·
         try simp only [NM] at hg87
         refine g_step_yes (j := 2) (t := 87) rfl rfl rfl rfl (s_val (v_move rfl) rfl rfl ?_)
         refine g_step rfl (s_val (v_pick_t rfl rfl) rfl rfl ?_)
         refine g_nil ?_
         refine g_next hK24 ?_
         refine g_cond rfl (fun hc89 => ?_) (fun hc89 => ?_)
         ·
          try simp only [NM] at hc89
          refine g_seq (fun K25 hK25 => ?_)
          refine g_region ?_
          refine g_step rfl (s_val (v_assign rfl) rfl rfl ?_)
          refine g_nil ?_
          refine g_next hK25 ?_
          refine g_ret ?_
          refine g_then_ret ?_
          refine g_end1 (.inl rfl) Try.results22 (.tmp rfl) [] (ASub.refl _) (AHeap.sub_refl _) (fun p hp => by cases hp) ⟨rfl, ?_⟩
          first | (rw [mayE, if_neg hA, if_neg hB, if_neg hC, if_neg (by rw [hov]; simp), if_pos ⟨by omega, by simp_all⟩]; done) | (rw [mayE, if_neg hA, if_neg hB, if_neg hC, if_neg (by rw [hov]; simp), if_pos ⟨by omega, by simp_all⟩]; rfl)
         ·
          try simp only [NM] at hc89
          refine g_skip ?_
          refine g_next hK23 ?_
          refine g_seq (fun K26 hK26 => ?_)
          refine g_region ?_
          refine g_step rfl (s_val (v_assign rfl) rfl rfl ?_)
          refine g_nil ?_
          refine g_next hK26 ?_
          refine g_ret ?_
          refine g_end1 (.inl rfl) Try.results22 (.tmp rfl) [] (ASub.refl _) (AHeap.sub_refl _) (fun p hp => by cases hp) ⟨rfl, ?_⟩
          first | (rw [mayE, if_neg hA, if_neg hB, if_neg hC, if_neg (by rw [hov]; simp), if_neg (by rintro ⟨h1, h2⟩; simp_all)]; done) | (rw [mayE, if_neg hA, if_neg hB, if_neg hC, if_neg (by rw [hov]; simp), if_neg (by rintro ⟨h1, h2⟩; simp_all)]; rfl)
        ·
         try simp only [NM] at hg87
         refine g_step_no (j := 2) (t := 87) rfl rfl rfl rfl rfl rfl rfl ?_
         refine g_step rfl (s_val (v_pick_f rfl rfl) rfl rfl ?_)
         refine g_nil ?_
         refine g_next hK24 ?_
         refine g_cond rfl (fun h => by cases h) (fun _ => ?_)
         refine g_skip ?_
         refine g_next hK23 ?_
         refine g_seq (fun K27 hK27 => ?_)
         refine g_region ?_
         refine g_step rfl (s_val (v_assign rfl) rfl rfl ?_)
         refine g_nil ?_
         refine g_next hK27 ?_
         refine g_ret ?_
         refine g_end1 (.inl rfl) Try.results22 (.tmp rfl) [] (ASub.refl _) (AHeap.sub_refl _) (fun p hp => by cases hp) ⟨rfl, ?_⟩
         first | (rw [mayE, if_neg hA, if_neg hB, if_neg hC, if_neg (by rw [hov]; simp), if_neg (by rintro ⟨h1, h2⟩; simp_all)]; done) | (rw [mayE, if_neg hA, if_neg hB, if_neg hC, if_neg (by rw [hov]; simp), if_neg (by rintro ⟨h1, h2⟩; simp_all)]; rfl)

theorem awake32_ok (G : AHeap) : PCalls Try.prog 15 [] G (fun v => v = .bool true) := by
 refine LCalls.intro 74 fi15 rfl Try.ntmps15 rfl (fun _ h => h.elim) (fun H hH w0 hw0 => ?_)
 refine g_seq (fun K0 hK0 => ?_)
 refine g_region ?_
 refine g_step rfl (s_val (v_assign rfl) rfl rfl ?_)
 refine g_nil ?_
 refine g_next hK0 ?_
 refine g_seq (fun K1 hK1 => ?_)
 refine g_region ?_
 refine g_step rfl (s_val (v_sub (b := (encSp ⟨1, 1⟩)) (v_build (vs := [(0, _), (1, _)]) (zs := [(.int .i64 0), (.int .i64 0)]) (cells := [_, _]) ty24 pl24 rfl rfl rfl) (ASub.of_wk rfl)) rfl rfl ?_)
 refine g_step rfl (s_alloc (av := (.agg [(.int .i64 0), (.int .i64 0)])) ty24 rfl rfl rfl rfl ?_)
 refine g_step rfl (s_store_all ty24 rfl rfl rfl rfl rfl rfl ?_)
 refine g_nil ?_
 refine g_next hK1 ?_
 refine g_seq (fun K2 hK2 => ?_)
 refine g_region ?_
 refine g_step rfl (s_val (by first | exact v_loadl_all ty24 rfl rfl rfl rfl rfl | exact v_loadl_part (cs := [_, _]) ty24 rfl rfl rfl rfl rfl rfl) rfl rfl ?_)
 refine g_step rfl (s_val (v_sub (b := (encR ⟨1, 0, 0, ⟨1, 1⟩, false, []⟩)) (v_build (vs := [(0, _), (3, _)]) (zs := [(.int .i64 0), (.int .i64 0), (.int .i64 0), (.int .i64 0), (.int .i64 0), (.bool false), .nil0]) (cells := [_, _, _, _, _, _, _]) ty32 pl32 rfl rfl rfl) (ASub.of_wk rfl)) rfl rfl ?_)
 refine g_step rfl (s_val (by first | exact v_loadl_all ty24 rfl rfl rfl rfl rfl | exact v_loadl_part (cs := [_, _]) ty24 rfl rfl rfl rfl rfl rfl) rfl rfl ?_)
 refine g_step rfl (s_val (v_sub (b := (encR ⟨2, 0, 0, ⟨1, 1⟩, false, []⟩)) (v_build (vs := [(0, _), (3, _)]) (zs := [(.int .i64 0), (.int .i64 0), (.int .i64 0), (.int .i64 0), (.int .i64 0), (.bool false), .nil0]) (cells := [_, _, _, _, _, _, _]) ty32 pl32 rfl rfl rfl) (ASub.of_wk rfl)) rfl rfl ?_)
 refine g_step rfl (s_lit ty22 ty32 rfl rfl rfl rfl rfl rfl rfl ?_)
 refine g_step rfl (s_val (v_assign rfl) rfl rfl ?_)
 refine g_nil ?_
 refine g_next hK2 ?_
 refine g_seq (fun K3 hK3 => ?_)
 refine g_region ?_
 refine g_step rfl (s_val (v_move rfl) rfl rfl ?_)
 refine g_step rfl (s_val (v_sub (b := (encSp ⟨2, 2⟩)) (v_build (vs := [(0, _), (1, _)]) (zs := [(.int .i64 0), (.int .i64 0)]) (cells := [_, _]) ty24 pl24 rfl rfl rfl) (ASub.of_wk rfl)) rfl rfl ?_)
 refine g_step rfl (s_callp rfl rfl rfl (plan_ok [⟨1, 0, 0, ⟨1, 1⟩, false, []⟩, ⟨2, 0, 0, ⟨1, 1⟩, false, []⟩] ⟨2, 2⟩ 2 _ (by simp) (by simp [Small, bsize])) ?_)
 rintro _ rfl
 rw [show (if mayE [⟨1, 0, 0, ⟨1, 1⟩, false, []⟩, ⟨2, 0, 0, ⟨1, 1⟩, false, []⟩] ⟨2, 2⟩ 2 = 0 then planL [⟨1, 0, 0, ⟨1, 1⟩, false, []⟩, ⟨2, 0, 0, ⟨1, 1⟩, false, []⟩] ⟨2, 2⟩ 2 else []) = [⟨1, ⟨1, 2⟩⟩, ⟨2, ⟨1, 2⟩⟩, ⟨1, ⟨2, 2⟩⟩, ⟨2, ⟨2, 2⟩⟩] from by decide, show mayE [⟨1, 0, 0, ⟨1, 1⟩, false, []⟩, ⟨2, 0, 0, ⟨1, 1⟩, false, []⟩] ⟨2, 2⟩ 2 = 0 from by decide]
 refine g_step rfl (s_val (v_move rfl) rfl rfl ?_)
 refine g_step rfl (s_val (v_extract rfl rfl) rfl rfl ?_)
 refine g_step rfl (s_val (v_extract rfl rfl) rfl rfl ?_)
 refine g_step rfl (s_val (v_assign rfl) rfl rfl ?_)
 refine g_step rfl (s_val (v_assign rfl) rfl rfl ?_)
 refine g_nil ?_
 refine g_next hK3 ?_
 refine g_seq (fun K4 hK4 => ?_)
 refine g_region ?_
 refine g_step rfl (s_val (v_move rfl) rfl rfl ?_)
 refine g_step rfl (s_val (v_sub (b := (encSp ⟨2, 2⟩)) (v_build (vs := [(0, _), (1, _)]) (zs := [(.int .i64 0), (.int .i64 0)]) (cells := [_, _]) ty24 pl24 rfl rfl rfl) (ASub.of_wk rfl)) rfl rfl ?_)
 refine g_step rfl (s_callp rfl rfl rfl (plan_ok [⟨1, 0, 0, ⟨1, 1⟩, false, []⟩, ⟨2, 0, 0, ⟨1, 1⟩, false, []⟩] ⟨2, 2⟩ 1 _ (by simp) (by simp [Small, bsize])) ?_)
 rintro _ rfl
 rw [show (if mayE [⟨1, 0, 0, ⟨1, 1⟩, false, []⟩, ⟨2, 0, 0, ⟨1, 1⟩, false, []⟩] ⟨2, 2⟩ 1 = 0 then planL [⟨1, 0, 0, ⟨1, 1⟩, false, []⟩, ⟨2, 0, 0, ⟨1, 1⟩, false, []⟩] ⟨2, 2⟩ 1 else []) = [] from by decide, show mayE [⟨1, 0, 0, ⟨1, 1⟩, false, []⟩, ⟨2, 0, 0, ⟨1, 1⟩, false, []⟩] ⟨2, 2⟩ 1 = 7 from by decide]
 refine g_step rfl (s_val (v_move rfl) rfl rfl ?_)
 refine g_step rfl (s_val (v_extract rfl rfl) rfl rfl ?_)
 refine g_step rfl (s_val (v_extract rfl rfl) rfl rfl ?_)
 refine g_step rfl (s_val (v_assign rfl) rfl rfl ?_)
 refine g_step rfl (s_val (v_assign rfl) rfl rfl ?_)
 refine g_nil ?_
 refine g_next hK4 ?_
 refine g_seq (fun K5 hK5 => ?_)
 refine g_region ?_
 refine g_step rfl (s_val (v_move rfl) rfl rfl ?_)
 refine g_step rfl (s_val (v_eql rfl rfl) rfl rfl ?_)
 refine g_step rfl (s_val (v_move rfl) rfl rfl ?_)
 refine g_split 27 rfl (fun hg27 => ?_) (fun hg27 => ?_)
 ·
  try simp only [NM] at hg27
  refine g_step_yes (j := 2) (t := 27) rfl rfl rfl rfl (s_val (v_move rfl) rfl rfl ?_)
  refine g_step_yes (j := 2) (t := 27) rfl rfl rfl rfl (s_val (v_len ty35 rfl (by first | rfl | assumption) (by first | exact List.length_map .. | rfl)) rfl rfl ?_)
  refine g_step_yes (j := 2) (t := 27) rfl rfl rfl rfl (s_val (v_eql rfl rfl) rfl rfl ?_)
  refine g_step rfl (s_val (v_pick_t rfl rfl) rfl rfl ?_)
  refine g_step rfl (s_val (v_move rfl) rfl rfl ?_)
  refine g_split 32 rfl (fun hg32 => ?_) (fun hg32 => ?_)
  ·
   try simp only [NM] at hg32
   refine g_step_yes (j := 7) (t := 32) rfl rfl rfl rfl (s_val (v_move rfl) rfl rfl ?_)
   refine g_step_yes (j := 7) (t := 32) rfl rfl rfl rfl (s_val (v_indexAddr ty35 ty42 rfl rfl (by first | rfl | assumption) (by first | rfl | exact (rfl : (0 : Int) = ((0 : Nat) : Int)) | exact (Int.toNat_of_nonneg (by omega)).symm) (by first | assumption | exact map_get (by assumption) | rfl) rfl) rfl rfl ?_)
   refine g_step_yes (j := 7) (t := 32) rfl rfl rfl rfl (s_val (by first | exact v_fieldAddr ty42 fo42_0 ty3 rfl | exact v_fieldAddr_box ty42 fo42_0 ty3 rfl) rfl rfl ?_)
   refine g_step_yes (j := 7) (t := 32) rfl rfl rfl rfl (s_val (by first | exact v_load ty3 rfl rfl (by first | rfl | assumption) (by first | assumption | exact map_get (by assumption) | rfl) rfl | exact v_load_box ty3 rfl rfl (by assumption) rfl) rfl rfl ?_)
   refine g_step_yes (j := 7) (t := 32) rfl rfl rfl rfl (s_val (v_eql rfl rfl) rfl rfl ?_)
   refine g_step rfl (s_val (v_pick_t rfl rfl) rfl rfl ?_)
   refine g_step rfl (s_val (v_move rfl) rfl rfl ?_)
   refine g_split 39 rfl (fun hg39 => ?_) (fun hg39 => ?_)
   ·
    try simp only [NM] at hg39
    refine g_step_yes (j := 14) (t := 39) rfl rfl rfl rfl (s_val (v_move rfl) rfl rfl ?_)
    refine g_step_yes (j := 14) (t := 39) rfl rfl rfl rfl (s_val (v_indexAddr ty35 ty42 rfl rfl (by first | rfl | assumption) (by first | rfl | exact (rfl : (0 : Int) = ((0 : Nat) : Int)) | exact (Int.toNat_of_nonneg (by omega)).symm) (by first | assumption | exact map_get (by assumption) | rfl) rfl) rfl rfl ?_)
    refine g_step_yes (j := 14) (t := 39) rfl rfl rfl rfl (s_val (by first | exact v_fieldAddr ty42 fo42_1 ty24 rfl | exact v_fieldAddr_box ty42 fo42_1 ty24 rfl) rfl rfl ?_)
    refine g_step_yes (j := 14) (t := 39) rfl rfl rfl rfl (s_val (by first | exact v_fieldAddr ty24 fo24_0 ty3 rfl | exact v_fieldAddr_box ty24 fo24_0 ty3 rfl) rfl rfl ?_)
    refine g_step_yes (j := 14) (t := 39) rfl rfl rfl rfl (s_val (by first | exact v_load ty3 rfl rfl (by first | rfl | assumption) (by first | assumption | exact map_get (by assumption) | rfl) rfl | exact v_load_box ty3 rfl rfl (by assumption) rfl) rfl rfl ?_)
    refine g_step_yes (j := 14) (t := 39) rfl rfl rfl rfl (s_val (v_eql rfl rfl) rfl rfl ?_)
    refine g_step rfl (s_val (v_pick_t rfl rfl) rfl rfl ?_)
    refine g_step rfl (s_val (v_move rfl) rfl rfl ?_)
    refine g_split 47 rfl (fun hg47 => ?_) (fun hg47 => ?_)
    ·
     try simp only [NM] at hg47
     refine g_step_yes (j := 22) (t := 47) rfl rfl rfl rfl (s_val (v_move rfl) rfl rfl ?_)
     refine g_step_yes (j := 22) (t := 47) rfl rfl rfl rfl (s_val (v_indexAddr ty35 ty42 rfl rfl (by first | rfl | assumption) (by first | rfl | exact (rfl : (0 : Int) = ((0 : Nat) : Int)) | exact (Int.toNat_of_nonneg (by omega)).symm) (by first | assumption | exact map_get (by assumption) | rfl) rfl) rfl rfl ?_)
     refine g_step_yes (j := 22) (t := 47) rfl rfl rfl rfl (s_val (by first | exact v_fieldAddr ty42 fo42_1 ty24 rfl | exact v_fieldAddr_box ty42 fo42_1 ty24 rfl) rfl rfl ?_)
     refine g_step_yes (j := 22) (t := 47) rfl rfl rfl rfl (s_val (by first | exact v_fieldAddr ty24 fo24_1 ty3 rfl | exact v_fieldAddr_box ty24 fo24_1 ty3 rfl) rfl rfl ?_)
     refine g_step_yes (j := 22) (t := 47) rfl rfl rfl rfl (s_val (by first | exact v_load ty3 rfl rfl (by first | rfl | assumption) (by first | assumption | exact map_get (by assumption) | rfl) rfl | exact v_load_box ty3 rfl rfl (by assumption) rfl) rfl rfl ?_)
     refine g_step_yes (j := 22) (t := 47) rfl rfl rfl rfl (s_val (v_eql rfl rfl) rfl rfl ?_)
     refine g_step rfl (s_val (v_pick_t rfl rfl) rfl rfl ?_)
     refine g_step rfl (s_val (v_move rfl) rfl rfl ?_)
     refine g_split 55 rfl (fun hg55 => ?_) (fun hg55 => ?_)
     ·
      try simp only [NM] at hg55
      refine g_step_yes (j := 30) (t := 55) rfl rfl rfl rfl (s_val (v_move rfl) rfl rfl ?_)
      refine g_step_yes (j := 30) (t := 55) rfl rfl rfl rfl (s_val (v_indexAddr ty35 ty42 rfl rfl (by first | rfl | assumption) (by first | rfl | exact (rfl : (0 : Int) = ((0 : Nat) : Int)) | exact (Int.toNat_of_nonneg (by omega)).symm) (by first | assumption | exact map_get (by assumption) | rfl) rfl) rfl rfl ?_)
      refine g_step_yes (j := 30) (t := 55) rfl rfl rfl rfl (s_val (by first | exact v_fieldAddr ty42 fo42_0 ty3 rfl | exact v_fieldAddr_box ty42 fo42_0 ty3 rfl) rfl rfl ?_)
      refine g_step_yes (j := 30) (t := 55) rfl rfl rfl rfl (s_val (by first | exact v_load ty3 rfl rfl (by first | rfl | assumption) (by first | assumption | exact map_get (by assumption) | rfl) rfl | exact v_load_box ty3 rfl rfl (by assumption) rfl) rfl rfl ?_)
      refine g_step_yes (j := 30) (t := 55) rfl rfl rfl rfl (s_val (v_eql rfl rfl) rfl rfl ?_)
      refine g_step rfl (s_val (v_pick_t rfl rfl) rfl rfl ?_)
      refine g_step rfl (s_val (v_move rfl) rfl rfl ?_)
      refine g_split 62 rfl (fun hg62 => ?_) (fun hg62 => ?_)
      ·
       try simp only [NM] at hg62
       refine g_step_yes (j := 37) (t := 62) rfl rfl rfl rfl (s_val (v_move rfl) rfl rfl ?_)
       refine g_step_yes (j := 37) (t := 62) rfl rfl rfl rfl (s_val (v_indexAddr ty35 ty42 rfl rfl (by first | rfl | assumption) (by first | rfl | exact (rfl : (0 : Int) = ((0 : Nat) : Int)) | exact (Int.toNat_of_nonneg (by omega)).symm) (by first | assumption | exact map_get (by assumption) | rfl) rfl) rfl rfl ?_)
       refine g_step_yes (j := 37) (t := 62) rfl rfl rfl rfl (s_val (by first | exact v_fieldAddr ty42 fo42_1 ty24 rfl | exact v_fieldAddr_box ty42 fo42_1 ty24 rfl) rfl rfl ?_)
       refine g_step_yes (j := 37) (t := 62) rfl rfl rfl rfl (s_val (by first | exact v_fieldAddr ty24 fo24_0 ty3 rfl | exact v_fieldAddr_box ty24 fo24_0 ty3 rfl) rfl rfl ?_)
       refine g_step_yes (j := 37) (t := 62) rfl rfl rfl rfl (s_val (by first | exact v_load ty3 rfl rfl (by first | rfl | assumption) (by first | assumption | exact map_get (by assumption) | rfl) rfl | exact v_load_box ty3 rfl rfl (by assumption) rfl) rfl rfl ?_)
       refine g_step_yes (j := 37) (t := 62) rfl rfl rfl rfl (s_val (v_eql rfl rfl) rfl rfl ?_)
       refine g_step rfl (s_val (v_pick_t rfl rfl) rfl rfl ?_)
       refine g_step rfl (s_val (v_move rfl) rfl rfl ?_)
       refine g_split 70 rfl (fun hg70 => ?_) (fun hg70 => ?_)
       ·
        try simp only [NM] at hg70
        refine g_step_yes (j := 45) (t := 70) rfl rfl rfl rfl (s_val (v_move rfl) rfl rfl ?_)
        refine g_step_yes (j := 45) (t := 70) rfl rfl rfl rfl (s_val (v_eql rfl rfl) rfl rfl ?_)
        refine g_step rfl (s_val (v_pick_t rfl rfl) rfl rfl ?_)
        refine g_step rfl (s_val (v_assign rfl) rfl rfl ?_)
        refine g_nil ?_
        refine g_next hK5 ?_
        first | refine g_keep [0] [] [] (keep_cons rfl keep_nil) lkeep_nil keep_nil rfl ?_ | refine g_keep [0] [] [] rfl rfl rfl rfl ?_
        refine g_ret ?_
        refine g_end1 (.inl rfl) Try.results15 (.tmp rfl) [] (ASub.refl _) (AHeap.sub_refl _) (fun p hp => by cases hp) ⟨rfl, ?_⟩
        rfl
       · exfalso; (try simp only [NM] at hg70); revert hg70; decide
      · exfalso; (try simp only [NM] at hg62); revert hg62; decide
     · exfalso; (try simp only [NM] at hg55); revert hg55; decide
    · exfalso; (try simp only [NM] at hg47); revert hg47; decide
   · exfalso; (try simp only [NM] at hg39); revert hg39; decide
  · exfalso; (try simp only [NM] at hg32); revert hg32; decide
 · exfalso; (try simp only [NM] at hg27); revert hg27; decide

theorem planApart_ok (l : List Rc) (id : Int) (s : Sp) (hh : ∀ r ∈ l, Held r.bag) (hlen : l.length ≤ 140737488351232) (G : AHeap) : PCalls Try.prog 3 [encRs l, .int .i64 id, encSp s] G (fun v => v = .bool true) := by
 refine LCalls.intro 80 fi3 rfl Try.ntmps3 rfl (fun _ h => h.elim) (fun H hH w0 hw0 => ?_)
 refine g_seq (fun K0 hK0 => ?_)
 refine g_region ?_
 refine g_step rfl (s_box rfl rfl rfl rfl ?_)
 refine g_step rfl (s_val (v_assign rfl) rfl rfl ?_)
 refine g_nil ?_
 refine g_next hK0 ?_
 refine g_seq (fun K1 hK1 => ?_)
 refine g_seq (fun K2 hK2 => ?_)
 refine g_region ?_
 refine g_step rfl (s_val (v_move rfl) rfl rfl ?_)
 refine g_step rfl (s_callp rfl rfl rfl (fewL_ok l _ _ rfl hh hlen) ?_)
 rintro _ rfl
 refine g_step rfl (s_val (v_not rfl) rfl rfl ?_)
 refine g_nil ?_
 refine g_next hK2 ?_
 refine g_cond rfl (fun hc12 => ?_) (fun hc12 => ?_)
 ·
  try simp only [NM] at hc12
  refine g_seq (fun K3 hK3 => ?_)
  refine g_region ?_
  refine g_step rfl (s_callp rfl rfl rfl (awake32_ok _) ?_)
  rintro _ rfl
  refine g_step rfl (s_val (v_assign rfl) rfl rfl ?_)
  refine g_nil ?_
  refine g_next hK3 ?_
  refine g_ret ?_
  refine g_then_ret ?_
  refine g_end1 (.inl rfl) Try.results3 (.tmp rfl) [] (ASub.refl _) (AHeap.sub_refl _) (fun p hp => by cases hp) ⟨rfl, ?_⟩
  rfl
 ·
  try simp only [NM] at hc12
  obtain ⟨hl20, hsl⟩ := fewL_small (l := l) (by first | assumption | simp_all)
  refine g_skip ?_
  refine g_next hK1 ?_
  refine g_seq (fun K4 hK4 => ?_)
  refine g_region ?_
  refine g_step rfl (s_val (v_move rfl) rfl rfl ?_)
  refine g_step rfl (s_val (v_move rfl) rfl rfl ?_)
  refine g_step rfl (s_val (by first | exact v_loadl_all ty24 rfl rfl rfl rfl rfl | exact v_loadl_part (cs := [_, _]) ty24 rfl rfl rfl rfl rfl rfl) rfl rfl ?_)
  refine g_step rfl (s_callp rfl rfl rfl (apart_ok l id s _ (by omega)) ?_)
  rintro _ rfl
  refine g_step rfl (s_val (v_assign rfl) rfl rfl ?_)
  refine g_nil ?_
  refine g_next hK4 ?_
  refine g_seq (fun K5 hK5 => ?_)
  refine g_region ?_
  refine g_step rfl (s_val (v_assign rfl) rfl rfl ?_)
  refine g_nil ?_
  refine g_next hK5 ?_
  refine g_seq (fun K6 hK6 => ?_)
  refine g_seq (fun K7 hK7 => ?_)
  refine g_region ?_
  refine g_step rfl (s_val (v_assign rfl) rfl rfl ?_)
  refine g_nil ?_
  refine g_next hK7 ?_
  refine g_block ?_
  first | refine g_keep [0, 1, 7, 8, 9] [5] [5] (keep_cons rfl (keep_cons rfl (keep_cons rfl (keep_cons rfl (keep_cons rfl keep_nil))))) (lkeep_cons rfl lkeep_nil) (keep_cons rfl keep_nil) rfl ?_ | refine g_keep [0, 1, 7, 8, 9] [5] [5] rfl rfl rfl rfl ?_
  refine g_loop (fun n env L B G => ∃ (k : Nat) (c : Int), k ≤ l.length ∧ n = l.length - k ∧ env = [(0, encRs l), (1, .int .i64 id), (7, .imm ((apartL l id s).map (.int .i64))), (8, .int .i64 c), (9, .int .i64 (k : Int))] ∧ L = [(5, 5, 0)] ∧ B = [(5, encSp s)] ∧ H = G ∧ c = (((l.take k).filter (apartP id s)).length : Nat)) (l.length) ⟨0, 0, Nat.zero_le _, rfl, rfl, rfl, rfl, rfl, rfl⟩ (fun n env L B G hI => ?_)
  obtain ⟨k, c, hk, rfl, rfl, rfl, rfl, rfl, hcn⟩ := hI
  refine g_seq (fun K8 hK8 => ?_)
  refine g_seq (fun K9 hK9 => ?_)
  refine g_region ?_
  refine g_step rfl (s_val (v_move rfl) rfl rfl ?_)
  refine g_step rfl (s_val (v_move rfl) rfl rfl ?_)
  refine g_step rfl (s_val (v_len ty22 rfl (by first | rfl | assumption) (by first | exact List.length_map .. | rfl)) rfl rfl ?_)
  refine g_step rfl (s_val (v_lss rfl rfl) rfl rfl ?_)
  refine g_nil ?_
  refine g_next hK9 ?_
  refine g_cond rfl (fun hc21 => ?_) (fun hc21 => ?_)
  ·
   try simp only [NM] at hc21
   obtain ⟨x, hx⟩ := get_some (l := l) (k := k) (by omega)
   have hfl := List.length_filter_le (apartP id s) (l.take k)
   rw [List.length_take] at hfl
   refine g_skip ?_
   refine g_next hK8 ?_
   refine g_seq (fun K10 hK10 => ?_)
   refine g_block ?_
   refine g_seq (fun K11 hK11 => ?_)
   refine g_draw (n := 24) (fun j => !([] : List Nat).contains j) rfl rfl ?_
   refine m_tk 0 false rfl rfl (by kernel_rfl) (v_move rfl) rfl rfl ?_
   refine m_tk 1 false rfl rfl (by kernel_rfl) (v_move rfl) rfl rfl ?_
   refine m_tk 2 false rfl rfl (by kernel_rfl) (v_indexAddr ty22 ty32 rfl rfl (by first | rfl | assumption) (by first | rfl | exact (rfl : (0 : Int) = ((0 : Nat) : Int)) | exact (Int.toNat_of_nonneg (by omega)).symm) (map_get hx) rfl) rfl rfl ?_
   refine m_tk 3 true rfl rfl (by kernel_rfl) (by first | exact v_load_elt ty32 rfl rfl (by first | rfl | assumption) (by first | assumption | exact map_get (by assumption) | rfl) rfl rfl | exact v_load_box_all ty32 rfl rfl (by assumption) rfl rfl | exact v_load_part (cs := [_, _, _, _, _, _, _]) ty32 rfl rfl (by first | rfl | assumption) (by first | assumption | exact map_get (by assumption) | rfl) rfl rfl rfl | exact v_load_box_part (cs := [_, _, _, _, _, _, _]) ty32 rfl rfl (by assumption) rfl rfl rfl) rfl rfl ?_
   refine m_one 4 (by kernel_rfl) rfl rfl ?_
   refine sm_callp rfl rfl rfl (counts32_ok _ _) ?_
   rintro _ rfl
   refine m_tk 5 false rfl rfl (by kernel_rfl) (v_move rfl) rfl rfl ?_
   refine m_split 29 rfl (fun hg29 => ?_) (fun hg29 => ?_)
   ·
    try simp only [NM] at hg29
    refine m_take_yes (j := 5) (t := 29) 6 false rfl rfl rfl rfl rfl (by kernel_rfl) (by kernel_rfl) (by kernel_rfl) (fun _ _ _ _ h => h) (v_move rfl) rfl rfl ?_
    refine m_take_yes (j := 5) (t := 29) 7 false rfl rfl rfl rfl rfl (by kernel_rfl) (by kernel_rfl) (by kernel_rfl) (fun _ _ _ _ h => h) (v_move rfl) rfl rfl ?_
    refine m_take_yes (j := 5) (t := 29) 8 false rfl rfl rfl rfl rfl (by kernel_rfl) (by kernel_rfl) (by kernel_rfl) (fun _ _ _ _ h => h) (v_indexAddr ty22 ty32 rfl rfl (by first | rfl | assumption) (by first | rfl | exact (rfl : (0 : Int) = ((0 : Nat) : Int)) | exact (Int.toNat_of_nonneg (by omega)).symm) (by first | assumption | exact map_get (by assumption) | rfl) rfl) rfl rfl ?_
    refine m_take_yes (j := 5) (t := 29) 9 false rfl rfl rfl rfl rfl (by kernel_rfl) (by kernel_rfl) (by kernel_rfl) (fun _ _ _ _ h => h) (by first | exact v_fieldAddr ty32 fo32_0 ty3 rfl | exact v_fieldAddr_box ty32 fo32_0 ty3 rfl) rfl rfl ?_
    refine m_take_yes (j := 5) (t := 29) 10 true rfl rfl rfl rfl rfl (by kernel_rfl) (by kernel_rfl) (by kernel_rfl) (fun _ _ _ _ h => h) (by first | exact v_load ty3 rfl rfl (by first | rfl | assumption) (by first | assumption | exact map_get (by assumption) | rfl) rfl | exact v_load_box ty3 rfl rfl (by assumption) rfl) rfl rfl ?_
    refine m_take_yes (j := 5) (t := 29) 11 false rfl rfl rfl rfl rfl (by kernel_rfl) (by kernel_rfl) (by kernel_rfl) (fun _ _ _ _ h => h) (v_move rfl) rfl rfl ?_
    refine m_take_yes (j := 5) (t := 29) 12 false rfl rfl rfl rfl rfl (by kernel_rfl) (by kernel_rfl) (by kernel_rfl) (fun _ _ _ _ h => h) (v_neq rfl rfl) rfl rfl ?_
    refine m_tk 13 false rfl rfl (by kernel_rfl) (v_pick_t rfl rfl) rfl rfl ?_
    refine m_tk 14 false rfl rfl (by kernel_rfl) (v_move rfl) rfl rfl ?_
    refine m_split 38 rfl (fun hg38 => ?_) (fun hg38 => ?_)
    ·
     try simp only [NM] at hg38
     refine m_take_yes (j := 14) (t := 38) 15 false rfl rfl rfl rfl rfl (by kernel_rfl) (by kernel_rfl) (by kernel_rfl) (fun _ _ _ _ h => h) (v_move rfl) rfl rfl ?_
     refine m_take_yes (j := 14) (t := 38) 16 false rfl rfl rfl rfl rfl (by kernel_rfl) (by kernel_rfl) (by kernel_rfl) (fun _ _ _ _ h => h) (v_move rfl) rfl rfl ?_
     refine m_take_yes (j := 14) (t := 38) 17 false rfl rfl rfl rfl rfl (by kernel_rfl) (by kernel_rfl) (by kernel_rfl) (fun _ _ _ _ h => h) (v_indexAddr ty22 ty32 rfl rfl (by first | rfl | assumption) (by first | rfl | exact (rfl : (0 : Int) = ((0 : Nat) : Int)) | exact (Int.toNat_of_nonneg (by omega)).symm) (by first | assumption | exact map_get (by assumption) | rfl) rfl) rfl rfl ?_
     refine m_take_yes (j := 14) (t := 38) 18 false rfl rfl rfl rfl rfl (by kernel_rfl) (by kernel_rfl) (by kernel_rfl) (fun _ _ _ _ h => h) (by first | exact v_fieldAddr ty32 fo32_3 ty24 rfl | exact v_fieldAddr_box ty32 fo32_3 ty24 rfl) rfl rfl ?_
     refine m_take_yes (j := 14) (t := 38) 19 true rfl rfl rfl rfl rfl (by kernel_rfl) (by kernel_rfl) (by kernel_rfl) (fun _ _ _ _ h => h) (by first | exact v_load_elt ty24 rfl rfl (by first | rfl | assumption) (by first | assumption | exact map_get (by assumption) | rfl) rfl rfl | exact v_load_box_all ty24 rfl rfl (by assumption) rfl rfl | exact v_load_part (cs := [_, _]) ty24 rfl rfl (by first | rfl | assumption) (by first | assumption | exact map_get (by assumption) | rfl) rfl rfl rfl | exact v_load_box_part (cs := [_, _]) ty24 rfl rfl (by assumption) rfl rfl rfl) rfl rfl ?_
     refine m_take_yes (j := 14) (t := 38) 20 true rfl rfl rfl rfl rfl (by kernel_rfl) (by kernel_rfl) (by kernel_rfl) (fun _ _ _ _ h => h) (by first | exact v_loadl_all ty24 rfl rfl rfl rfl rfl | exact v_loadl_part (cs := [_, _]) ty24 rfl rfl rfl rfl rfl rfl) rfl rfl ?_
     refine m_one_yes (j := 14) (t := 38) 21 (by kernel_rfl) rfl rfl rfl rfl rfl ?_
     refine sm_callp rfl rfl rfl (spBest_ok x.sp s _) ?_
     rintro _ rfl
     refine m_take_yes (j := 14) (t := 38) 22 false rfl rfl rfl rfl rfl (by kernel_rfl) (by kernel_rfl) (by kernel_rfl) (fun _ _ _ _ h => h) (v_eql rfl rfl) rfl rfl ?_
     refine m_tk 23 false rfl rfl (by kernel_rfl) (v_pick_t rfl rfl) rfl rfl ?_
     refine m_done (by kernel_rfl) ?_
     refine g_next hK11 ?_
     first | refine g_keep [0, 1, 7, 8, 9, 47] [5] [5] (keep_cons rfl (keep_cons rfl (keep_cons rfl (keep_cons rfl (keep_cons rfl (keep_cons rfl keep_nil)))))) (lkeep_cons rfl lkeep_nil) (keep_cons rfl keep_nil) rfl ?_ | refine g_keep [0, 1, 7, 8, 9, 47] [5] [5] rfl rfl rfl rfl ?_
     refine g_cond rfl (fun hc47 => ?_) (fun hc47 => ?_)
     ·
      try simp only [NM] at hc47
      have hap : apartP id s x = true := by simp_all [apartP]
      have hga := apart_at hx hap
      obtain ⟨hgb, _⟩ := List.getElem?_eq_some_iff.1 hga
      refine g_seq (fun K12 hK12 => ?_)
      refine g_seq (fun K13 hK13 => ?_)
      refine g_draw (n := 16) (fun j => !([] : List Nat).contains j) rfl rfl ?_
      refine m_tk 0 false rfl rfl (by kernel_rfl) (v_move rfl) rfl rfl ?_
      refine m_tk 1 false rfl rfl (by kernel_rfl) (v_move rfl) rfl rfl ?_
      refine m_tk 2 false rfl rfl (by kernel_rfl) (v_len ty27 rfl (by first | rfl | assumption) (by first | exact List.length_map .. | rfl)) rfl rfl ?_
      refine m_tk 3 false rfl rfl (by kernel_rfl) (v_geq rfl rfl) rfl rfl ?_
      refine m_tk 4 false rfl rfl (by kernel_rfl) (v_move rfl) rfl rfl ?_
      refine m_split 52 rfl (fun hg52 => ?_) (fun hg52 => ?_)
      · exfalso; (try simp only [NM] at hg52); omega
      ·
       try simp only [NM] at hg52
       refine m_take_yes (j := 4) (t := 52) 5 false rfl rfl rfl rfl rfl (by kernel_rfl) (by kernel_rfl) (by kernel_rfl) (fun _ _ _ _ h => h) (v_move rfl) rfl rfl ?_
       refine m_take_yes (j := 4) (t := 52) 6 false rfl rfl rfl rfl rfl (by kernel_rfl) (by kernel_rfl) (by kernel_rfl) (fun _ _ _ _ h => h) (v_move rfl) rfl rfl ?_
       refine m_take_yes (j := 4) (t := 52) 7 false rfl rfl rfl rfl rfl (by kernel_rfl) (by kernel_rfl) (by kernel_rfl) (fun _ _ _ _ h => h) (v_indexAddr ty27 ty3 rfl rfl (by first | rfl | assumption) hcn (map_get hga) rfl) rfl rfl ?_
       refine m_take_yes (j := 4) (t := 52) 8 true rfl rfl rfl rfl rfl (by kernel_rfl) (by kernel_rfl) (by kernel_rfl) (fun _ _ _ _ h => h) (by first | exact v_load ty3 rfl rfl (by first | rfl | assumption) (map_get hga) rfl | exact v_load_box ty3 rfl rfl (by assumption) rfl) rfl rfl ?_
       refine m_take_yes (j := 4) (t := 52) 9 false rfl rfl rfl rfl rfl (by kernel_rfl) (by kernel_rfl) (by kernel_rfl) (fun _ _ _ _ h => h) (v_move rfl) rfl rfl ?_
       refine m_take_yes (j := 4) (t := 52) 10 false rfl rfl rfl rfl rfl (by kernel_rfl) (by kernel_rfl) (by kernel_rfl) (fun _ _ _ _ h => h) (v_move rfl) rfl rfl ?_
       refine m_take_yes (j := 4) (t := 52) 11 false rfl rfl rfl rfl rfl (by kernel_rfl) (by kernel_rfl) (by kernel_rfl) (fun _ _ _ _ h => h) (v_indexAddr ty22 ty32 rfl rfl (by first | rfl | assumption) (by first | rfl | exact (rfl : (0 : Int) = ((0 : Nat) : Int)) | exact (Int.toNat_of_nonneg (by omega)).symm) (by first | assumption | exact map_get (by assumption) | rfl) rfl) rfl rfl ?_
       refine m_take_yes (j := 4) (t := 52) 12 false rfl rfl rfl rfl rfl (by kernel_rfl) (by kernel_rfl) (by kernel_rfl) (fun _ _ _ _ h => h) (by first | exact v_fieldAddr ty32 fo32_0 ty3 rfl | exact v_fieldAddr_box ty32 fo32_0 ty3 rfl) rfl rfl ?_
       refine m_take_yes (j := 4) (t := 52) 13 true rfl rfl rfl rfl rfl (by kernel_rfl) (by kernel_rfl) (by kernel_rfl) (fun _ _ _ _ h => h) (by first | exact v_load ty3 rfl rfl (by first | rfl | assumption) (by first | assumption | exact map_get (by assumption) | rfl) rfl | exact v_load_box ty3 rfl rfl (by assumption) rfl) rfl rfl ?_
       refine m_take_yes (j := 4) (t := 52) 14 false rfl rfl rfl rfl rfl (by kernel_rfl) (by kernel_rfl) (by kernel_rfl) (fun _ _ _ _ h => h) (v_neq rfl rfl) rfl rfl ?_
       refine m_tk 15 false rfl rfl (by kernel_rfl) (v_pick_f rfl rfl) rfl rfl ?_
       refine m_done (by kernel_rfl) ?_
       refine g_next hK13 ?_
       refine g_cond rfl (fun hc63 => ?_) (fun hc63 => ?_)
       · exfalso; (try simp only [NM] at hc63); first | (simp at hc63; done) | exact hc63 rfl | (simp at hg63; done)
       ·
        try simp only [NM] at hc63
        refine g_skip ?_
        refine g_next hK12 ?_
        refine g_region ?_
        refine g_step rfl (s_val (v_move rfl) rfl rfl ?_)
        refine g_step rfl (s_val (v_add rfl rfl (by omega)) rfl rfl ?_)
        refine g_step rfl (s_val (v_assign rfl) rfl rfl ?_)
        refine g_nil ?_
        refine g_block_normal ?_
        refine g_next hK10 ?_
        refine g_region ?_
        refine g_step rfl (s_val (v_move rfl) rfl rfl ?_)
        refine g_step rfl (s_val (v_add rfl rfl (by omega)) rfl rfl ?_)
        refine g_step rfl (s_val (v_assign rfl) rfl rfl ?_)
        refine g_nil ?_
        first | refine g_keep [0, 1, 7, 8, 9] [5] [5] (keep_cons rfl (keep_cons rfl (keep_cons rfl (keep_cons rfl (keep_cons rfl keep_nil))))) (lkeep_cons rfl lkeep_nil) (keep_cons rfl keep_nil) rfl ?_ | refine g_keep [0, 1, 7, 8, 9] [5] [5] rfl rfl rfl rfl ?_
        first | exact g_round _ (by omega) ⟨k + 1, c + 1, by omega, rfl, rfl, rfl, rfl, rfl, by rw [filter_snoc hx, if_pos hap, List.length_append, hcn]; rfl⟩ | exact g_round _ (by omega) ⟨k + 1, c, by omega, rfl, rfl, rfl, rfl, rfl, by rw [filter_snoc hx, if_neg (by simp_all [apartP]), List.append_nil]; exact hcn⟩
     ·
      try simp only [NM] at hc47
      refine g_skip ?_
      refine g_block_normal ?_
      refine g_next hK10 ?_
      refine g_region ?_
      refine g_step rfl (s_val (v_move rfl) rfl rfl ?_)
      refine g_step rfl (s_val (v_add rfl rfl (by omega)) rfl rfl ?_)
      refine g_step rfl (s_val (v_assign rfl) rfl rfl ?_)
      refine g_nil ?_
      first | refine g_keep [0, 1, 7, 8, 9] [5] [5] (keep_cons rfl (keep_cons rfl (keep_cons rfl (keep_cons rfl (keep_cons rfl keep_nil))))) (lkeep_cons rfl lkeep_nil) (keep_cons rfl keep_nil) rfl ?_ | refine g_keep [0, 1, 7, 8, 9] [5] [5] rfl rfl rfl rfl ?_
      first | exact g_round _ (by omega) ⟨k + 1, c + 1, by omega, rfl, rfl, rfl, rfl, rfl, by rw [filter_snoc hx, if_pos hap, List.length_append, hcn]; rfl⟩ | exact g_round _ (by omega) ⟨k + 1, c, by omega, rfl, rfl, rfl, rfl, rfl, by rw [filter_snoc hx, if_neg (by simp_all [apartP]), List.append_nil]; exact hcn⟩
    ·
     try simp only [NM] at hg38
     refine m_take_no (j := 14) (t := 38) 15 rfl rfl rfl rfl rfl rfl (by kernel_rfl) (by kernel_rfl) (by kernel_rfl) (fun _ _ _ _ h => h) rfl rfl ?_
     refine m_take_no (j := 14) (t := 38) 16 rfl rfl rfl rfl rfl rfl (by kernel_rfl) (by kernel_rfl) (by kernel_rfl) (fun _ _ _ _ h => h) rfl rfl ?_
     refine m_take_no (j := 14) (t := 38) 17 rfl rfl rfl rfl rfl rfl (by kernel_rfl) (by kernel_rfl) (by kernel_rfl) (fun _ _ _ _ h => h) rfl rfl ?_
     refine m_take_no (j := 14) (t := 38) 18 rfl rfl rfl rfl rfl rfl (by kernel_rfl) (by kernel_rfl) (by kernel_rfl) (fun _ _ _ _ h => h) rfl rfl ?_
     refine m_take_no (j := 14) (t := 38) 19 rfl rfl rfl rfl rfl rfl (by kernel_rfl) (by kernel_rfl) (by kernel_rfl) (fun _ _ _ _ h => h) rfl rfl ?_
     refine m_take_no (j := 14) (t := 38) 20 rfl rfl rfl rfl rfl rfl (by kernel_rfl) (by kernel_rfl) (by kernel_rfl) (fun _ _ _ _ h => h) rfl rfl ?_
     refine m_take_no (j := 14) (t := 38) 21 rfl rfl rfl rfl rfl rfl (by kernel_rfl) (by kernel_rfl) (by kernel_rfl) (fun _ _ _ _ h => h) rfl rfl ?_
     refine m_take_no (j := 14) (t := 38) 22 rfl rfl rfl rfl rfl rfl (by kernel_rfl) (by kernel_rfl) (by kernel_rfl) (fun _ _ _ _ h => h) rfl rfl ?_
     refine m_tk 23 false rfl rfl (by kernel_rfl) (v_pick_f rfl rfl) rfl rfl ?_
     refine m_done (by kernel_rfl) ?_
     refine g_next hK11 ?_
     first | refine g_keep [0, 1, 7, 8, 9, 47] [5] [5] (keep_cons rfl (keep_cons rfl (keep_cons rfl (keep_cons rfl (keep_cons rfl (keep_cons rfl keep_nil)))))) (lkeep_cons rfl lkeep_nil) (keep_cons rfl keep_nil) rfl ?_ | refine g_keep [0, 1, 7, 8, 9, 47] [5] [5] rfl rfl rfl rfl ?_
     refine g_cond rfl (fun h => by cases h) (fun _ => ?_)
     refine g_skip ?_
     refine g_block_normal ?_
     refine g_next hK10 ?_
     refine g_region ?_
     refine g_step rfl (s_val (v_move rfl) rfl rfl ?_)
     refine g_step rfl (s_val (v_add rfl rfl (by omega)) rfl rfl ?_)
     refine g_step rfl (s_val (v_assign rfl) rfl rfl ?_)
     refine g_nil ?_
     first | refine g_keep [0, 1, 7, 8, 9] [5] [5] (keep_cons rfl (keep_cons rfl (keep_cons rfl (keep_cons rfl (keep_cons rfl keep_nil))))) (lkeep_cons rfl lkeep_nil) (keep_cons rfl keep_nil) rfl ?_ | refine g_keep [0, 1, 7, 8, 9] [5] [5] rfl rfl rfl rfl ?_
     first | exact g_round _ (by omega) ⟨k + 1, c + 1, by omega, rfl, rfl, rfl, rfl, rfl, by rw [filter_snoc hx, if_pos hap, List.length_append, hcn]; rfl⟩ | exact g_round _ (by omega) ⟨k + 1, c, by omega, rfl, rfl, rfl, rfl, rfl, by rw [filter_snoc hx, if_neg (by simp_all [apartP]), List.append_nil]; exact hcn⟩
   ·
    try simp only [NM] at hg29
    refine m_take_no (j := 5) (t := 29) 6 rfl rfl rfl rfl rfl rfl (by kernel_rfl) (by kernel_rfl) (by kernel_rfl) (fun _ _ _ _ h => h) rfl rfl ?_
    refine m_take_no (j := 5) (t := 29) 7 rfl rfl rfl rfl rfl rfl (by kernel_rfl) (by kernel_rfl) (by kernel_rfl) (fun _ _ _ _ h => h) rfl rfl ?_
    refine m_take_no (j := 5) (t := 29) 8 rfl rfl rfl rfl rfl rfl (by kernel_rfl) (by kernel_rfl) (by kernel_rfl) (fun _ _ _ _ h => h) rfl rfl ?_
    refine m_take_no (j := 5) (t := 29) 9 rfl rfl rfl rfl rfl rfl (by kernel_rfl) (by kernel_rfl) (by kernel_rfl) (fun _ _ _ _ h => h) rfl rfl ?_
    refine m_take_no (j := 5) (t := 29) 10 rfl rfl rfl rfl rfl rfl (by kernel_rfl) (by kernel_rfl) (by kernel_rfl) (fun _ _ _ _ h => h) rfl rfl ?_
    refine m_take_no (j := 5) (t := 29) 11 rfl rfl rfl rfl rfl rfl (by kernel_rfl) (by kernel_rfl) (by kernel_rfl) (fun _ _ _ _ h => h) rfl rfl ?_
    refine m_take_no (j := 5) (t := 29) 12 rfl rfl rfl rfl rfl rfl (by kernel_rfl) (by kernel_rfl) (by kernel_rfl) (fun _ _ _ _ h => h) rfl rfl ?_
    refine m_tk 13 false rfl rfl (by kernel_rfl) (v_pick_f rfl rfl) rfl rfl ?_
    refine m_tk 14 false rfl rfl (by kernel_rfl) (v_move rfl) rfl rfl ?_
    refine m_take_no (j := 14) (t := 38) 15 rfl rfl rfl rfl rfl rfl (by kernel_rfl) (by kernel_rfl) (by kernel_rfl) (fun _ _ _ _ h => h) rfl rfl ?_
    refine m_take_no (j := 14) (t := 38) 16 rfl rfl rfl rfl rfl rfl (by kernel_rfl) (by kernel_rfl) (by kernel_rfl) (fun _ _ _ _ h => h) rfl rfl ?_
    refine m_take_no (j := 14) (t := 38) 17 rfl rfl rfl rfl rfl rfl (by kernel_rfl) (by kernel_rfl) (by kernel_rfl) (fun _ _ _ _ h => h) rfl rfl ?_
    refine m_take_no (j := 14) (t := 38) 18 rfl rfl rfl rfl rfl rfl (by kernel_rfl) (by kernel_rfl) (by kernel_rfl) (fun _ _ _ _ h => h) rfl rfl ?_
    refine m_take_no (j := 14) (t := 38) 19 rfl rfl rfl rfl rfl rfl (by kernel_rfl) (by kernel_rfl) (by kernel_rfl) (fun _ _ _ _ h => h) rfl rfl ?_
    refine m_take_no (j := 14) (t := 38) 20 rfl rfl rfl rfl rfl rfl (by kernel_rfl) (by kernel_rfl) (by kernel_rfl) (fun _ _ _ _ h => h) rfl rfl ?_
    refine m_take_no (j := 14) (t := 38) 21 rfl rfl rfl rfl rfl rfl (by kernel_rfl) (by kernel_rfl) (by kernel_rfl) (fun _ _ _ _ h => h) rfl rfl ?_
    refine m_take_no (j := 14) (t := 38) 22 rfl rfl rfl rfl rfl rfl (by kernel_rfl) (by kernel_rfl) (by kernel_rfl) (fun _ _ _ _ h => h) rfl rfl ?_
    refine m_tk 23 false rfl rfl (by kernel_rfl) (v_pick_f rfl rfl) rfl rfl ?_
    refine m_done (by kernel_rfl) ?_
    refine g_next hK11 ?_
    first | refine g_keep [0, 1, 7, 8, 9, 47] [5] [5] (keep_cons rfl (keep_cons rfl (keep_cons rfl (keep_cons rfl (keep_cons rfl (keep_cons rfl keep_nil)))))) (lkeep_cons rfl lkeep_nil) (keep_cons rfl keep_nil) rfl ?_ | refine g_keep [0, 1, 7, 8, 9, 47] [5] [5] rfl rfl rfl rfl ?_
    refine g_cond rfl (fun h => by cases h) (fun _ => ?_)
    refine g_skip ?_
    refine g_block_normal ?_
    refine g_next hK10 ?_
    refine g_region ?_
    refine g_step rfl (s_val (v_move rfl) rfl rfl ?_)
    refine g_step rfl (s_val (v_add rfl rfl (by omega)) rfl rfl ?_)
    refine g_step rfl (s_val (v_assign rfl) rfl rfl ?_)
    refine g_nil ?_
    first | refine g_keep [0, 1, 7, 8, 9] [5] [5] (keep_cons rfl (keep_cons rfl (keep_cons rfl (keep_cons rfl (keep_cons rfl keep_nil))))) (lkeep_cons rfl lkeep_nil) (keep_cons rfl keep_nil) rfl ?_ | refine g_keep [0, 1, 7, 8, 9] [5] [5] rfl rfl rfl rfl ?_
    first | exact g_round _ (by omega) ⟨k + 1, c + 1, by omega, rfl, rfl, rfl, rfl, rfl, by rw [filter_snoc hx, if_pos hap, List.length_append, hcn]; rfl⟩ | exact g_round _ (by omega) ⟨k + 1, c, by omega, rfl, rfl, rfl, rfl, rfl, by rw [filter_snoc hx, if_neg (by simp_all [apartP]), List.append_nil]; exact hcn⟩
  ·
   try simp only [NM] at hc21
   obtain rfl : k = l.length := by omega
   rw [List.take_length] at hcn
   refine g_exit ?_
   refine g_then_exit ?_
   refine g_then_exit ?_
   refine g_block_same ?_
   refine g_next hK6 ?_
   refine g_seq (fun K14 hK14 => ?_)
   refine g_region ?_
   refine g_step rfl (s_val (v_move rfl) rfl rfl ?_)
   refine g_step rfl (s_val (v_move rfl) rfl rfl ?_)
   refine g_step rfl (s_val (v_len ty27 rfl (by first | rfl | assumption) (by first | exact List.length_map .. | rfl)) rfl rfl ?_)
   refine g_step rfl (s_val (v_eql rfl rfl) rfl rfl ?_)
   refine g_step rfl (s_val (v_move rfl) rfl rfl ?_)
   refine g_split 70 rfl (fun hg70 => ?_) (fun hg70 => ?_)
   ·
    try simp only [NM] at hg70
    refine g_step_yes (j := 4) (t := 70) rfl rfl rfl rfl (s_val (v_move rfl) rfl rfl ?_)
    refine g_step_yes (j := 4) (t := 70) rfl rfl rfl rfl (s_callp rfl rfl rfl (speak_ok _ _ (by omega)) ?_)
    rintro _ rfl
    refine g_step_yes (j := 4) (t := 70) rfl rfl rfl rfl (s_val (v_move rfl) rfl rfl ?_)
    refine g_step_yes (j := 4) (t := 70) rfl rfl rfl rfl (s_callp rfl rfl rfl (speak32_ok l _ (by omega)) ?_)
    rintro _ rfl
    refine g_step_yes (j := 4) (t := 70) rfl rfl rfl rfl (s_val (v_bool_eql ty4 rfl rfl) rfl rfl ?_)
    refine g_step rfl (s_val (v_pick_t rfl rfl) rfl rfl ?_)
    refine g_step rfl (s_val (v_move rfl) rfl rfl ?_)
    refine g_split 77 rfl (fun hg77 => ?_) (fun hg77 => ?_)
    ·
     try simp only [NM] at hg77
     refine g_step_yes (j := 11) (t := 77) rfl rfl rfl rfl (s_callp rfl rfl rfl (awake32_ok _) ?_)
     rintro _ rfl
     refine g_step rfl (s_val (v_pick_t rfl rfl) rfl rfl ?_)
     refine g_step rfl (s_val (v_assign rfl) rfl rfl ?_)
     refine g_nil ?_
     refine g_next hK14 ?_
     refine g_ret ?_
     refine g_end1 (.inl rfl) Try.results3 (.tmp rfl) [] (ASub.refl _) (AHeap.sub_refl _) (fun p hp => by cases hp) ⟨rfl, ?_⟩
     rfl
    · exfalso; (try simp only [NM] at hg77); simp at hg77
   · exfalso; (try simp only [NM] at hg70); rw [apartL, List.length_map] at hg70; omega

theorem apply_ok (l : List Rc) (ms : List Mv) (G : AHeap) (va : AV) (hva : va.view G = some (l.map encR)) (hl : l.length ≤ 100000) (hs : ∀ x ∈ l, Small x.bag) (hm : ms.length ≤ 100000) : PCalls Try.prog 24 [va, .imm (ms.map encMv)] G (fun v => v = encRs (applyL l ms)) := by
 refine LCalls.intro 39 fi24 rfl Try.ntmps24 rfl (fun _ h => h.elim) (fun H hH w0 hw0 => ?_)
 have hva := view_sub hH hva
 refine g_seq (fun K0 hK0 => ?_)
 refine g_region ?_
 refine g_step rfl (s_val (v_assign rfl) rfl rfl ?_)
 refine g_nil ?_
 refine g_next hK0 ?_
 refine g_seq (fun K1 hK1 => ?_)
 refine g_region ?_
 refine g_step rfl (s_val (v_move rfl) rfl rfl ?_)
 refine g_step rfl (s_call rfl rfl rfl (recCopyO_ok l _ va hva (by omega) hs) (fun _ h => h.elim) ?_)
 rintro n1 av effs1 hn1 hdom1 hR1 hok1
 have hown := hR1.own (n0 := w0.heap.size) hn1 hdom1
 generalize setAll H effs1 = G1 at hown ⊢
 refine g_step rfl (s_val (v_assign rfl) rfl rfl ?_)
 refine g_nil ?_
 refine g_next hK1 ?_
 refine g_seq (fun K2 hK2 => ?_)
 refine g_seq (fun K3 hK3 => ?_)
 refine g_region ?_
 refine g_step rfl (s_val (v_move rfl) rfl rfl ?_)
 refine g_step rfl (s_val (v_len ty35 rfl (by first | rfl | assumption) (by first | exact List.length_map .. | rfl)) rfl rfl ?_)
 refine g_step rfl (s_val (v_move rfl) rfl rfl ?_)
 refine g_nil ?_
 refine g_next hK3 ?_
 refine g_block ?_
 first | refine g_keep [5, 11, 12, 13] [] [] (keep_cons rfl (keep_cons rfl (keep_cons rfl (keep_cons rfl keep_nil)))) lkeep_nil keep_nil rfl ?_ | refine g_keep [5, 11, 12, 13] [] [] rfl rfl rfl rfl ?_
 refine g_loop (fun n env L B G => ∃ (k : Nat) , k ≤ ms.length ∧ n = ms.length - k ∧ env = [(5, av), (11, .imm (ms.map encMv)), (12, .int .i64 (ms.length : Int)), (13, .int .i64 (k : Int))] ∧ L = [] ∧ B = [] ∧ Own w0.heap.size 7 H av ((l.map (applyR (ms.take k))).map encR) G) (ms.length) ⟨0, Nat.zero_le _, rfl, rfl, rfl, rfl, by rw [show ms.take 0 = [] from rfl, show (applyR [] : Rc → Rc) = id from rfl, List.map_id]; exact hown⟩ (fun n env L B G hI => ?_)
 obtain ⟨k, hk, rfl, rfl, rfl, rfl, hown⟩ := hI
 refine g_seq (fun K4 hK4 => ?_)
 refine g_region ?_
 refine g_step rfl (s_val (v_lss rfl rfl) rfl rfl ?_)
 refine g_nil ?_
 refine g_next hK4 ?_
 refine g_seq (fun K5 hK5 => ?_)
 refine g_cond rfl (fun hc14 => ?_) (fun hc14 => ?_)
 ·
  try simp only [NM] at hc14
  obtain ⟨m, hm⟩ := get_some (l := ms) (k := k) (by omega)
  refine g_skip ?_
  refine g_next hK5 ?_
  refine g_seq (fun K6 hK6 => ?_)
  refine g_block ?_
  refine g_seq (fun K7 hK7 => ?_)
  refine g_region ?_
  refine g_step rfl (s_val (v_indexAddr ty35 ty42 rfl rfl (by first | rfl | assumption) (by first | rfl | exact (rfl : (0 : Int) = ((0 : Nat) : Int)) | exact (Int.toNat_of_nonneg (by omega)).symm) (by first | assumption | exact map_get (by assumption) | rfl) rfl) rfl rfl ?_)
  refine g_step rfl (s_val (by first | exact v_load_elt ty42 rfl rfl (by first | rfl | assumption) (by first | assumption | exact map_get (by assumption) | rfl) rfl rfl | exact v_load_box_all ty42 rfl rfl (by assumption) rfl rfl | exact v_load_part (cs := [_, _, _]) ty42 rfl rfl (by first | rfl | assumption) (by first | assumption | exact map_get (by assumption) | rfl) rfl rfl rfl | exact v_load_box_part (cs := [_, _, _]) ty42 rfl rfl (by assumption) rfl rfl rfl) rfl rfl ?_)
  refine g_step rfl (s_alloc (av := (.agg [(.int .i64 0), (.int .i64 0), (.int .i64 0)])) ty42 rfl rfl rfl rfl ?_)
  refine g_step rfl (s_store_all ty42 rfl rfl rfl rfl rfl rfl ?_)
  refine g_nil ?_
  refine g_next hK7 ?_
  refine g_seq (fun K8 hK8 => ?_)
  refine g_region ?_
  refine g_step rfl (s_val (v_move rfl) rfl rfl ?_)
  refine g_step rfl (s_val (v_len ty22 rfl hown.view (by rw [List.length_map, List.length_map])) rfl rfl ?_)
  refine g_step rfl (s_val (v_move rfl) rfl rfl ?_)
  refine g_nil ?_
  refine g_next hK8 ?_
  refine g_block ?_
  first | refine g_keep [5, 11, 12, 13, 18, 19] [7] [7] (keep_cons rfl (keep_cons rfl (keep_cons rfl (keep_cons rfl (keep_cons rfl (keep_cons rfl keep_nil)))))) (lkeep_cons rfl lkeep_nil) (keep_cons rfl keep_nil) rfl ?_ | refine g_keep [5, 11, 12, 13, 18, 19] [7] [7] rfl rfl rfl rfl ?_
  refine g_loop (fun n env L B G => ∃ (i : Nat) , i ≤ l.length ∧ n = l.length - i ∧ env = [(5, av), (11, .imm (ms.map encMv)), (12, .int .i64 (ms.length : Int)), (13, .int .i64 (k : Int)), (18, .int .i64 (l.length : Int)), (19, .int .i64 (i : Int))] ∧ L = [(7, 7, 0)] ∧ B = [(7, (encMv m))] ∧ Own w0.heap.size 7 H av ((putAll (fun r => decide (r.id = m.id)) (fun r => setSp r m.sp) i (l.map (applyR (ms.take k)))).map encR) G) (l.length) ⟨0, Nat.zero_le _, rfl, rfl, rfl, rfl, hown⟩ (fun n env L B G hI => ?_)
  obtain ⟨i, hi, rfl, rfl, rfl, rfl, hown⟩ := hI
  refine g_seq (fun K9 hK9 => ?_)
  refine g_region ?_
  refine g_step rfl (s_val (v_lss rfl rfl) rfl rfl ?_)
  refine g_nil ?_
  refine g_next hK9 ?_
  refine g_seq (fun K10 hK10 => ?_)
  refine g_cond rfl (fun hc20 => ?_) (fun hc20 => ?_)
  ·
   try simp only [NM] at hc20
   obtain ⟨x, hx⟩ := get_some (l := l.map (applyR (ms.take k))) (k := i) (by rw [List.length_map]; omega)
   refine g_skip ?_
   refine g_next hK10 ?_
   refine g_seq (fun K11 hK11 => ?_)
   refine g_block ?_
   refine g_seq (fun K12 hK12 => ?_)
   refine g_region ?_
   refine g_step rfl (s_val (v_move rfl) rfl rfl ?_)
   refine g_step rfl (s_val (v_assign rfl) rfl rfl ?_)
   refine g_nil ?_
   refine g_next hK12 ?_
   refine g_seq (fun K13 hK13 => ?_)
   refine g_draw (n := 8) (fun j => !([] : List Nat).contains j) rfl rfl ?_
   refine m_tk 0 false rfl rfl (by kernel_rfl) (v_move rfl) rfl rfl ?_
   refine m_tk 1 false rfl rfl (by kernel_rfl) (v_move rfl) rfl rfl ?_
   refine m_tk 2 false rfl rfl (by kernel_rfl) (v_indexAddr ty22 ty32 rfl rfl hown.view (by first | rfl | exact (rfl : (0 : Int) = ((0 : Nat) : Int)) | exact (Int.toNat_of_nonneg (by omega)).symm) (map_get (putAll_get hx)) rfl) rfl rfl ?_
   refine m_tk 3 false rfl rfl (by kernel_rfl) (by first | exact v_fieldAddr ty32 fo32_0 ty3 rfl | exact v_fieldAddr_box ty32 fo32_0 ty3 rfl) rfl rfl ?_
   refine m_tk 4 true rfl rfl (by kernel_rfl) (by first | exact v_load ty3 rfl rfl hown.view (map_get (putAll_get hx)) rfl | exact v_load_box ty3 rfl rfl (by assumption) rfl) rfl rfl ?_
   refine m_takel 5 rfl rfl (by kernel_rfl) (by kernel_rfl) (by kernel_rfl) (fun _ _ _ _ h => h) (vl_fieldAddr ty42 fo42_0 ty3 rfl) rfl rfl ?_
   refine m_tk 6 true rfl rfl (by kernel_rfl) (v_loadl ty3 rfl rfl rfl rfl) rfl rfl ?_
   refine m_tk 7 false rfl rfl (by kernel_rfl) (v_eql rfl rfl) rfl rfl ?_
   refine m_done (by kernel_rfl) ?_
   refine g_next hK13 ?_
   refine g_cond rfl (fun hc29 => ?_) (fun hc29 => ?_)
   ·
    try simp only [NM] at hc29
    refine g_region ?_
    refine g_step rfl (s_val (v_move rfl) rfl rfl ?_)
    refine g_step rfl (s_val (v_move rfl) rfl rfl ?_)
    refine g_step rfl (s_fieldAddr ty42 fo42_1 ty24 rfl rfl ?_)
    refine g_step rfl (s_val (v_loadl_part (cs := [_, _]) ty24 rfl rfl rfl rfl rfl rfl) rfl rfl ?_)
    refine g_step rfl (s_val (v_indexAddr ty22 ty32 rfl rfl hown.view (by first | rfl | exact (rfl : (0 : Int) = ((0 : Nat) : Int)) | exact (Int.toNat_of_nonneg (by omega)).symm) (map_get (putAll_get hx)) rfl) rfl rfl ?_)
    refine g_step rfl (s_val (by first | exact v_fieldAddr ty32 fo32_3 ty24 rfl | exact v_fieldAddr_box ty32 fo32_3 ty24 rfl) rfl rfl ?_)
    refine g_step rfl (s_store_own (k := i) (off := 3) (old := encR x) (new := encR (setSp x m.sp)) ty24 rfl rfl hown (map_get (putAll_get hx)) rfl rfl rfl rfl ?_)
    intro G35 hown35
    refine g_nil ?_
    refine g_block_normal ?_
    refine g_next hK11 ?_
    refine g_region ?_
    refine g_step rfl (s_val (v_add rfl rfl (by omega)) rfl rfl ?_)
    refine g_step rfl (s_val (v_move rfl) rfl rfl ?_)
    refine g_nil ?_
    first | refine g_keep [5, 11, 12, 13, 18, 19] [7] [7] (keep_cons rfl (keep_cons rfl (keep_cons rfl (keep_cons rfl (keep_cons rfl (keep_cons rfl keep_nil)))))) (lkeep_cons rfl lkeep_nil) (keep_cons rfl keep_nil) rfl ?_ | refine g_keep [5, 11, 12, 13, 18, 19] [7] [7] rfl rfl rfl rfl ?_
    first | exact g_round _ (by omega) ⟨i + 1, by omega, rfl, rfl, rfl, rfl, by rw [← putAll_hit hx (by simpa using hc29), List.map_set]; exact hown35⟩ | exact g_round _ (by omega) ⟨i + 1, by omega, rfl, rfl, rfl, rfl, by rw [← putAll_miss hx (by simpa using hc29)]; exact hown⟩
   ·
    try simp only [NM] at hc29
    refine g_skip ?_
    refine g_block_normal ?_
    refine g_next hK11 ?_
    refine g_region ?_
    refine g_step rfl (s_val (v_add rfl rfl (by omega)) rfl rfl ?_)
    refine g_step rfl (s_val (v_move rfl) rfl rfl ?_)
    refine g_nil ?_
    first | refine g_keep [5, 11, 12, 13, 18, 19] [7] [7] (keep_cons rfl (keep_cons rfl (keep_cons rfl (keep_cons rfl (keep_cons rfl (keep_cons rfl keep_nil)))))) (lkeep_cons rfl lkeep_nil) (keep_cons rfl keep_nil) rfl ?_ | refine g_keep [5, 11, 12, 13, 18, 19] [7] [7] rfl rfl rfl rfl ?_
    first | exact g_round _ (by omega) ⟨i + 1, by omega, rfl, rfl, rfl, rfl, by rw [← putAll_hit hx (by simpa using hc29), List.map_set]; exact hown35⟩ | exact g_round _ (by omega) ⟨i + 1, by omega, rfl, rfl, rfl, rfl, by rw [← putAll_miss hx (by simpa using hc29)]; exact hown⟩
  ·
   try simp only [NM] at hc20
   obtain rfl : i = (l.map (applyR (ms.take k))).length := by rw [List.length_map]; omega
   rw [putAll_all, apply_pass hm] at hown
   refine g_exit ?_
   refine g_then_exit ?_
   refine g_then_exit ?_
   refine g_block_same ?_
   refine g_block_normal ?_
   refine g_next hK6 ?_
   refine g_region ?_
   refine g_step rfl (s_val (v_add rfl rfl (by omega)) rfl rfl ?_)
   refine g_step rfl (s_val (v_move rfl) rfl rfl ?_)
   refine g_nil ?_
   first | refine g_keep [5, 11, 12, 13] [] [] (keep_cons rfl (keep_cons rfl (keep_cons rfl (keep_cons rfl keep_nil)))) lkeep_nil keep_nil rfl ?_ | refine g_keep [5, 11, 12, 13] [] [] rfl rfl rfl rfl ?_
   exact g_round _ (by omega) ⟨k + 1, by omega, rfl, rfl, rfl, rfl, hown⟩
 ·
  try simp only [NM] at hc14
  obtain rfl : k = ms.length := by omega
  rw [List.take_length] at hown
  refine g_exit ?_
  refine g_then_exit ?_
  refine g_then_exit ?_
  refine g_block_same ?_
  refine g_next hK2 ?_
  refine g_seq (fun K14 hK14 => ?_)
  refine g_region ?_
  refine g_freeze 5 rfl hown ?_
  refine g_step rfl (s_val (v_move rfl) rfl rfl ?_)
  refine g_step rfl (s_val (v_assign rfl) rfl rfl ?_)
  refine g_nil ?_
  refine g_next hK14 ?_
  refine g_ret ?_
  refine g_end1 (.inl rfl) Try.results24 (.tmp rfl) [] (ASub.refl _) (AHeap.sub_refl _) (fun p hp => by cases hp) ⟨rfl, ?_⟩
  rfl

end Go.Proofs.Ytgedefcjngofkaa

import Derived.Test.YtgedefcjngofkaaRec
set_option maxHeartbeats 8000000
set_option linter.unusedSimpArgs false
set_option linter.unusedVariables false
set_option maxRecDepth 100000
namespace Go.Proofs.Ytgedefcjngofkaa
open Go Go.Proofs.Ytgedefcjngofkaa.AM
theorem few_ok (a : List Fd) (G : AHeap) (va : AV) (hva : va.view G = some (a.map encFd)) (hh : Held a) : PCalls Try.prog 52 [va] G (fun v => v = .bool (few a)) := by
 refine LCalls.intro 24 fi52 rfl Try.ntmps52 rfl (fun _ h => h.elim) (fun H hH w0 hw0 => ?_)
 have hh1 := hh.1
 have hva := view_sub hH hva
 refine g_seq (fun K0 hK0 => ?_)
 refine g_region ?_
 refine g_step rfl (s_val (v_assign rfl) rfl rfl ?_)
 refine g_nil ?_
 refine g_next hK0 ?_
 refine g_seq (fun K1 hK1 => ?_)
 refine g_seq (fun K2 hK2 => ?_)
 refine g_region ?_
 refine g_step rfl (s_val (v_move rfl) rfl rfl ?_)
 refine g_step rfl (s_val (v_len ty30 rfl hva (by first | exact List.length_map .. | rfl)) rfl rfl ?_)
 refine g_step rfl (s_val (v_gtr rfl rfl) rfl rfl ?_)
 refine g_nil ?_
 refine g_next hK2 ?_
 refine g_cond rfl (fun hc7 => ?_) (fun hc7 => ?_)
 ·
  try simp only [NM] at hc7
  refine g_seq (fun K3 hK3 => ?_)
  refine g_region ?_
  refine g_step rfl (s_val (v_assign rfl) rfl rfl ?_)
  refine g_nil ?_
  refine g_next hK3 ?_
  refine g_ret ?_
  refine g_then_ret ?_
  refine g_end1 (.inl rfl) Try.results52 (.tmp rfl) [] (ASub.refl _) (AHeap.sub_refl _) (fun p hp => by cases hp) ⟨rfl, ?_⟩
  first | (simp [few]; omega; done) | (simp [few]; omega; rfl)
 ·
  try simp only [NM] at hc7
  refine g_skip ?_
  refine g_next hK1 ?_
  refine g_seq (fun K4 hK4 => ?_)
  refine g_region ?_
  refine g_step rfl (s_val (v_assign rfl) rfl rfl ?_)
  refine g_nil ?_
  refine g_next hK4 ?_
  refine g_seq (fun K5 hK5 => ?_)
  refine g_seq (fun K6 hK6 => ?_)
  refine g_region ?_
  refine g_step rfl (s_val (v_assign rfl) rfl rfl ?_)
  refine g_nil ?_
  refine g_next hK6 ?_
  refine g_block ?_
  first | refine g_keep [0, 3, 4] [] [] (keep_cons rfl (keep_cons rfl (keep_cons rfl keep_nil))) lkeep_nil keep_nil rfl ?_ | refine g_keep [0, 3, 4] [] [] rfl rfl rfl rfl ?_
  refine g_loop (fun n env L B G => ∃ (k : Nat) (s : Int), k ≤ a.length ∧ n = a.length - k ∧ env = [(0, va), (3, .int .i64 s), (4, .int .i64 (k : Int))] ∧ L = [] ∧ B = [] ∧ G = H ∧ 0 ≤ s ∧ s ≤ 5000 ∧ fewGo (a.drop k) s = few a) a.length ⟨0, 0, by omega, rfl, rfl, rfl, rfl, rfl, by omega, by omega, by rw [few, if_neg (by omega)]; rfl⟩ (fun n env L B G hI => ?_)
  obtain ⟨k, s, hk, rfl, rfl, rfl, rfl, rfl, hs0, hs1, hc⟩ := hI
  refine g_seq (fun K7 hK7 => ?_)
  refine g_seq (fun K8 hK8 => ?_)
  refine g_region ?_
  refine g_step rfl (s_val (v_move rfl) rfl rfl ?_)
  refine g_step rfl (s_val (v_move rfl) rfl rfl ?_)
  refine g_step rfl (s_val (v_len ty30 rfl hva (by first | exact List.length_map .. | rfl)) rfl rfl ?_)
  refine g_step rfl (s_val (v_lss rfl rfl) rfl rfl ?_)
  refine g_nil ?_
  refine g_next hK8 ?_
  refine g_cond rfl (fun hc11 => ?_) (fun hc11 => ?_)
  ·
   try simp only [NM] at hc11
   obtain ⟨x, hx⟩ := get_some (l := a) (k := k) (by omega)
   have hsx := hh.2 x (mem_get hx)
   refine g_skip ?_
   refine g_next hK7 ?_
   refine g_seq (fun K9 hK9 => ?_)
   refine g_block ?_
   refine g_seq (fun K10 hK10 => ?_)
   refine g_region ?_
   refine g_step rfl (s_val (v_move rfl) rfl rfl ?_)
   refine g_step rfl (s_val (v_move rfl) rfl rfl ?_)
   refine g_step rfl (s_val (v_move rfl) rfl rfl ?_)
   refine g_step rfl (s_val (v_indexAddr ty30 ty131 rfl rfl hva (by first | rfl | exact (rfl : (0 : Int) = ((0 : Nat) : Int)) | exact (Int.toNat_of_nonneg (by omega)).symm) (by first | assumption | exact map_get (by assumption) | rfl) rfl) rfl rfl ?_)
   refine g_step rfl (s_val (by first | exact v_fieldAddr ty131 fo131_1 ty129 rfl | exact v_fieldAddr_box ty131 fo131_1 ty129 rfl) rfl rfl ?_)
   refine g_step rfl (s_val (by first | exact v_load ty129 rfl rfl hva (by first | assumption | exact map_get (by assumption) | rfl) rfl | exact v_load_box ty129 rfl rfl (by assumption) rfl) rfl rfl ?_)
   refine g_step rfl (s_val (v_len ty129 rfl (by first | rfl | assumption) (by first | exact List.length_map .. | rfl)) rfl rfl ?_)
   refine g_step rfl (s_val (v_add rfl rfl (by omega)) rfl rfl ?_)
   refine g_step rfl (s_val (v_assign rfl) rfl rfl ?_)
   refine g_nil ?_
   refine g_next hK10 ?_
   refine g_seq (fun K11 hK11 => ?_)
   refine g_region ?_
   refine g_step rfl (s_val (v_move rfl) rfl rfl ?_)
   refine g_step rfl (s_val (v_gtr rfl rfl) rfl rfl ?_)
   refine g_nil ?_
   refine g_next hK11 ?_
   refine g_cond rfl (fun hc23 => ?_) (fun hc23 => ?_)
   ·
    try simp only [NM] at hc23
    refine g_seq (fun K12 hK12 => ?_)
    refine g_region ?_
    refine g_step rfl (s_val (v_assign rfl) rfl rfl ?_)
    refine g_nil ?_
    refine g_next hK12 ?_
    refine g_ret ?_
    refine g_block_ret ?_
    refine g_then_ret ?_
    refine g_then_ret ?_
    refine g_block_ret ?_
    refine g_then_ret ?_
    refine g_end1 (.inl rfl) Try.results52 (.tmp rfl) [] (ASub.refl _) (AHeap.sub_refl _) (fun p hp => by cases hp) ⟨rfl, ?_⟩
    first | (rw [← hc, drop_cons hx, fewGo, if_pos (by omega)]; rfl; done) | (rw [← hc, drop_cons hx, fewGo, if_pos (by omega)]; rfl; rfl)
   ·
    try simp only [NM] at hc23
    refine g_skip ?_
    refine g_block_normal ?_
    refine g_next hK9 ?_
    refine g_region ?_
    refine g_step rfl (s_val (v_move rfl) rfl rfl ?_)
    refine g_step rfl (s_val (v_add rfl rfl (by omega)) rfl rfl ?_)
    refine g_step rfl (s_val (v_assign rfl) rfl rfl ?_)
    refine g_nil ?_
    first | refine g_keep [0, 3, 4] [] [] (keep_cons rfl (keep_cons rfl (keep_cons rfl keep_nil))) lkeep_nil keep_nil rfl ?_ | refine g_keep [0, 3, 4] [] [] rfl rfl rfl rfl ?_
    exact g_round _ (by omega) ⟨k + 1, _, by omega, rfl, rfl, rfl, rfl, rfl, by omega, by omega, by rw [drop_cons hx, fewGo, if_neg (by omega)] at hc; exact hc⟩
  ·
   try simp only [NM] at hc11
   rw [List.drop_of_length_le (by omega), fewGo] at hc
   refine g_exit ?_
   refine g_then_exit ?_
   refine g_then_exit ?_
   refine g_block_same ?_
   refine g_next hK5 ?_
   refine g_seq (fun K13 hK13 => ?_)
   refine g_region ?_
   refine g_step rfl (s_val (v_assign rfl) rfl rfl ?_)
   refine g_nil ?_
   refine g_next hK13 ?_
   refine g_ret ?_
   refine g_end1 (.inl rfl) Try.results52 (.tmp rfl) [] (ASub.refl _) (AHeap.sub_refl _) (fun p hp => by cases hp) ⟨rfl, ?_⟩
   first | (rw [← hc]; rfl; done) | (rw [← hc]; rfl; rfl)

theorem fewL_ok (l : List Rc) (G : AHeap) (va : AV) (hva : va.view G = some (l.map encR)) (hh : ∀ r ∈ l, Held r.bag) (hl : l.length ≤ 140737488351232) : PCalls Try.prog 14 [va] G (fun v => v = .bool (fewL l)) := by
 refine LCalls.intro 20 fi14 rfl Try.ntmps14 rfl (fun _ h => h.elim) (fun H hH w0 hw0 => ?_)
 have hva := view_sub hH hva
 refine g_seq (fun K0 hK0 => ?_)
 refine g_region ?_
 refine g_step rfl (s_val (v_assign rfl) rfl rfl ?_)
 refine g_nil ?_
 refine g_next hK0 ?_
 refine g_seq (fun K1 hK1 => ?_)
 refine g_seq (fun K2 hK2 => ?_)
 refine g_region ?_
 refine g_step rfl (s_val (v_move rfl) rfl rfl ?_)
 refine g_step rfl (s_val (v_len ty22 rfl hva (by first | exact List.length_map .. | rfl)) rfl rfl ?_)
 refine g_step rfl (s_val (v_gtr rfl rfl) rfl rfl ?_)
 refine g_nil ?_
 refine g_next hK2 ?_
 refine g_cond rfl (fun hc6 => ?_) (fun hc6 => ?_)
 ·
  try simp only [NM] at hc6
  refine g_seq (fun K3 hK3 => ?_)
  refine g_region ?_
  refine g_step rfl (s_val (v_assign rfl) rfl rfl ?_)
  refine g_nil ?_
  refine g_next hK3 ?_
  refine g_ret ?_
  refine g_then_ret ?_
  refine g_end1 (.inl rfl) Try.results14 (.tmp rfl) [] (ASub.refl _) (AHeap.sub_refl _) (fun p hp => by cases hp) ⟨rfl, ?_⟩
  first | (simp [fewL]; omega; done) | (simp [fewL]; omega; rfl)
 ·
  try simp only [NM] at hc6
  refine g_skip ?_
  refine g_next hK1 ?_
  refine g_seq (fun K4 hK4 => ?_)
  refine g_seq (fun K5 hK5 => ?_)
  refine g_region ?_
  refine g_step rfl (s_val (v_assign rfl) rfl rfl ?_)
  refine g_nil ?_
  refine g_next hK5 ?_
  refine g_block ?_
  first | refine g_keep [0, 3] [] [] (keep_cons rfl (keep_cons rfl keep_nil)) lkeep_nil keep_nil rfl ?_ | refine g_keep [0, 3] [] [] rfl rfl rfl rfl ?_
  refine g_loop (fun n env L B G => ∃ (k : Nat), k ≤ l.length ∧ n = l.length - k ∧ env = [(0, va), (3, .int .i64 (k : Int))] ∧ L = [] ∧ B = [] ∧ G = H ∧ (l.take k).all (fun r => few r.bag) = true) l.length ⟨0, by omega, rfl, rfl, rfl, rfl, rfl, rfl⟩ (fun n env L B G hI => ?_)
  obtain ⟨k, hk, rfl, rfl, rfl, rfl, rfl, hc⟩ := hI
  refine g_seq (fun K6 hK6 => ?_)
  refine g_seq (fun K7 hK7 => ?_)
  refine g_region ?_
  refine g_step rfl (s_val (v_move rfl) rfl rfl ?_)
  refine g_step rfl (s_val (v_move rfl) rfl rfl ?_)
  refine g_step rfl (s_val (v_len ty22 rfl hva (by first | exact List.length_map .. | rfl)) rfl rfl ?_)
  refine g_step rfl (s_val (v_lss rfl rfl) rfl rfl ?_)
  refine g_nil ?_
  refine g_next hK7 ?_
  refine g_cond rfl (fun hc10 => ?_) (fun hc10 => ?_)
  ·
   try simp only [NM] at hc10
   obtain ⟨x, hx⟩ := get_some (l := l) (k := k) (by omega)
   have hsx := hh x (mem_get hx)
   refine g_skip ?_
   refine g_next hK6 ?_
   refine g_seq (fun K8 hK8 => ?_)
   refine g_block ?_
   refine g_seq (fun K9 hK9 => ?_)
   refine g_region ?_
   refine g_step rfl (s_val (v_move rfl) rfl rfl ?_)
   refine g_step rfl (s_val (v_move rfl) rfl rfl ?_)
   refine g_step rfl (s_val (v_indexAddr ty22 ty32 rfl rfl hva (by first | rfl | exact (rfl : (0 : Int) = ((0 : Nat) : Int)) | exact (Int.toNat_of_nonneg (by omega)).symm) (by first | assumption | exact map_get (by assumption) | rfl) rfl) rfl rfl ?_)
   refine g_step rfl (s_val (by first | exact v_fieldAddr ty32 fo32_5 ty30 rfl | exact v_fieldAddr_box ty32 fo32_5 ty30 rfl) rfl rfl ?_)
   refine g_step rfl (s_val (by first | exact v_load ty30 rfl rfl hva (by first | assumption | exact map_get (by assumption) | rfl) rfl | exact v_load_box ty30 rfl rfl (by assumption) rfl) rfl rfl ?_)
   refine g_step rfl (s_callp rfl rfl rfl (few_ok x.bag _ _ rfl hsx) ?_)
   rintro _ rfl
   refine g_step rfl (s_val (v_not rfl) rfl rfl ?_)
   refine g_nil ?_
   refine g_next hK9 ?_
   refine g_cond rfl (fun hc19 => ?_) (fun hc19 => ?_)
   ·
    try simp only [NM] at hc19
    refine g_seq (fun K10 hK10 => ?_)
    refine g_region ?_
    refine g_step rfl (s_val (v_assign rfl) rfl rfl ?_)
    refine g_nil ?_
    refine g_next hK10 ?_
    refine g_ret ?_
    refine g_block_ret ?_
    refine g_then_ret ?_
    refine g_then_ret ?_
    refine g_block_ret ?_
    refine g_then_ret ?_
    refine g_end1 (.inl rfl) Try.results14 (.tmp rfl) [] (ASub.refl _) (AHeap.sub_refl _) (fun p hp => by cases hp) ⟨rfl, ?_⟩
    have hno : fewL l = false := by simp only [fewL, Bool.and_eq_false_iff]; right; exact List.all_eq_false.2 ⟨x, mem_get hx, by simp [hc19]⟩
    rw [hno]; rfl
   ·
    try simp only [NM] at hc19
    refine g_skip ?_
    refine g_block_normal ?_
    refine g_next hK8 ?_
    refine g_region ?_
    refine g_step rfl (s_val (v_move rfl) rfl rfl ?_)
    refine g_step rfl (s_val (v_add rfl rfl (by omega)) rfl rfl ?_)
    refine g_step rfl (s_val (v_assign rfl) rfl rfl ?_)
    refine g_nil ?_
    first | refine g_keep [0, 3] [] [] (keep_cons rfl (keep_cons rfl keep_nil)) lkeep_nil keep_nil rfl ?_ | refine g_keep [0, 3] [] [] rfl rfl rfl rfl ?_
    exact g_round _ (by omega) ⟨k + 1, by omega, rfl, rfl, rfl, rfl, rfl, by rw [List.take_add_one, hx, List.all_append, hc]; simpa using hc19⟩
  ·
   try simp only [NM] at hc10
   rw [List.take_of_length_le (by omega)] at hc
   refine g_exit ?_
   refine g_then_exit ?_
   refine g_then_exit ?_
   refine g_block_same ?_
   refine g_next hK4 ?_
   refine g_seq (fun K11 hK11 => ?_)
   refine g_region ?_
   refine g_step rfl (s_val (v_assign rfl) rfl rfl ?_)
   refine g_nil ?_
   refine g_next hK11 ?_
   refine g_ret ?_
   refine g_end1 (.inl rfl) Try.results14 (.tmp rfl) [] (ASub.refl _) (AHeap.sub_refl _) (fun p hp => by cases hp) ⟨rfl, ?_⟩
   first | (rw [fewL, hc]; simp; omega; done) | (rw [fewL, hc]; simp; omega; rfl)

theorem alike_ok (a b : Rc) (G : AHeap) (hl : Small a.bag) : PCalls Try.prog 25 [encR a, encR b] G (fun v => v = .bool (decide (a = b))) := by
 refine LCalls.intro 56 fi25 rfl Try.ntmps25 rfl (fun _ h => h.elim) (fun H hH w0 hw0 => ?_)
 refine g_seq (fun K0 hK0 => ?_)
 refine g_region ?_
 refine g_step rfl (s_box rfl rfl rfl rfl ?_)
 refine g_step rfl (s_box rfl rfl rfl rfl ?_)
 refine g_step rfl (s_val (v_assign rfl) rfl rfl ?_)
 refine g_nil ?_
 refine g_next hK0 ?_
 refine g_seq (fun K1 hK1 => ?_)
 refine g_region ?_
 refine g_step rfl (s_fieldAddr ty32 fo32_0 ty3 rfl rfl ?_)
 refine g_step rfl (s_val (v_loadl ty3 rfl rfl rfl rfl) rfl rfl ?_)
 refine g_step rfl (s_fieldAddr ty32 fo32_0 ty3 rfl rfl ?_)
 refine g_step rfl (s_val (v_loadl ty3 rfl rfl rfl rfl) rfl rfl ?_)
 refine g_step rfl (s_val (v_eql rfl rfl) rfl rfl ?_)
 refine g_step rfl (s_val (v_move rfl) rfl rfl ?_)
 refine g_split 10 rfl (fun hg10 => ?_) (fun hg10 => ?_)
 ·
  try simp only [NM] at hg10
  refine g_step_yes (j := 5) (t := 10) rfl rfl rfl rfl (s_fieldAddr ty32 fo32_1 ty3 rfl rfl ?_)
  refine g_step_yes (j := 5) (t := 10) rfl rfl rfl rfl (s_val (v_loadl ty3 rfl rfl rfl rfl) rfl rfl ?_)
  refine g_step_yes (j := 5) (t := 10) rfl rfl rfl rfl (s_fieldAddr ty32 fo32_1 ty3 rfl rfl ?_)
  refine g_step_yes (j := 5) (t := 10) rfl rfl rfl rfl (s_val (v_loadl ty3 rfl rfl rfl rfl) rfl rfl ?_)
  refine g_step_yes (j := 5) (t := 10) rfl rfl rfl rfl (s_val (v_eql rfl rfl) rfl rfl ?_)
  refine g_step rfl (s_val (v_pick_t rfl rfl) rfl rfl ?_)
  refine g_step rfl (s_val (v_move rfl) rfl rfl ?_)
  refine g_split 17 rfl (fun hg17 => ?_) (fun hg17 => ?_)
  ·
   try simp only [NM] at hg17
   refine g_step_yes (j := 12) (t := 17) rfl rfl rfl rfl (s_fieldAddr ty32 fo32_2 ty3 rfl rfl ?_)
   refine g_step_yes (j := 12) (t := 17) rfl rfl rfl rfl (s_val (v_loadl ty3 rfl rfl rfl rfl) rfl rfl ?_)
   refine g_step_yes (j := 12) (t := 17) rfl rfl rfl rfl (s_fieldAddr ty32 fo32_2 ty3 rfl rfl ?_)
   refine g_step_yes (j := 12) (t := 17) rfl rfl rfl rfl (s_val (v_loadl ty3 rfl rfl rfl rfl) rfl rfl ?_)
   refine g_step_yes (j := 12) (t := 17) rfl rfl rfl rfl (s_val (v_eql rfl rfl) rfl rfl ?_)
   refine g_step rfl (s_val (v_pick_t rfl rfl) rfl rfl ?_)
   refine g_step rfl (s_val (v_move rfl) rfl rfl ?_)
   refine g_split 24 rfl (fun hg24 => ?_) (fun hg24 => ?_)
   ·
    try simp only [NM] at hg24
    refine g_step_yes (j := 19) (t := 24) rfl rfl rfl rfl (s_fieldAddr ty32 fo32_3 ty24 rfl rfl ?_)
    refine g_step_yes (j := 19) (t := 24) rfl rfl rfl rfl (s_fieldAddr ty24 fo24_0 ty3 rfl rfl ?_)
    refine g_step_yes (j := 19) (t := 24) rfl rfl rfl rfl (s_val (v_loadl ty3 rfl rfl rfl rfl) rfl rfl ?_)
    refine g_step_yes (j := 19) (t := 24) rfl rfl rfl rfl (s_fieldAddr ty32 fo32_3 ty24 rfl rfl ?_)
    refine g_step_yes (j := 19) (t := 24) rfl rfl rfl rfl (s_fieldAddr ty24 fo24_0 ty3 rfl rfl ?_)
    refine g_step_yes (j := 19) (t := 24) rfl rfl rfl rfl (s_val (v_loadl ty3 rfl rfl rfl rfl) rfl rfl ?_)
    refine g_step_yes (j := 19) (t := 24) rfl rfl rfl rfl (s_val (v_eql rfl rfl) rfl rfl ?_)
    refine g_step rfl (s_val (v_pick_t rfl rfl) rfl rfl ?_)
    refine g_step rfl (s_val (v_move rfl) rfl rfl ?_)
    refine g_split 33 rfl (fun hg33 => ?_) (fun hg33 => ?_)
    ·
     try simp only [NM] at hg33
     refine g_step_yes (j := 28) (t := 33) rfl rfl rfl rfl (s_fieldAddr ty32 fo32_3 ty24 rfl rfl ?_)
     refine g_step_yes (j := 28) (t := 33) rfl rfl rfl rfl (s_fieldAddr ty24 fo24_1 ty3 rfl rfl ?_)
     refine g_step_yes (j := 28) (t := 33) rfl rfl rfl rfl (s_val (v_loadl ty3 rfl rfl rfl rfl) rfl rfl ?_)
     refine g_step_yes (j := 28) (t := 33) rfl rfl rfl rfl (s_fieldAddr ty32 fo32_3 ty24 rfl rfl ?_)
     refine g_step_yes (j := 28) (t := 33) rfl rfl rfl rfl (s_fieldAddr ty24 fo24_1 ty3 rfl rfl ?_)
     refine g_step_yes (j := 28) (t := 33) rfl rfl rfl rfl (s_val (v_loadl ty3 rfl rfl rfl rfl) rfl rfl ?_)
     refine g_step_yes (j := 28) (t := 33) rfl rfl rfl rfl (s_val (v_eql rfl rfl) rfl rfl ?_)
     refine g_step rfl (s_val (v_pick_t rfl rfl) rfl rfl ?_)
     refine g_step rfl (s_val (v_move rfl) rfl rfl ?_)
     refine g_split 42 rfl (fun hg42 => ?_) (fun hg42 => ?_)
     ·
      try simp only [NM] at hg42
      refine g_step_yes (j := 37) (t := 42) rfl rfl rfl rfl (s_fieldAddr ty32 fo32_4 ty4 rfl rfl ?_)
      refine g_step_yes (j := 37) (t := 42) rfl rfl rfl rfl (s_val (v_loadl ty4 rfl rfl rfl rfl) rfl rfl ?_)
      refine g_step_yes (j := 37) (t := 42) rfl rfl rfl rfl (s_fieldAddr ty32 fo32_4 ty4 rfl rfl ?_)
      refine g_step_yes (j := 37) (t := 42) rfl rfl rfl rfl (s_val (v_loadl ty4 rfl rfl rfl rfl) rfl rfl ?_)
      refine g_step_yes (j := 37) (t := 42) rfl rfl rfl rfl (s_val (v_bool_eql ty4 rfl rfl) rfl rfl ?_)
      refine g_step rfl (s_val (v_pick_t rfl rfl) rfl rfl ?_)
      refine g_step rfl (s_val (v_move rfl) rfl rfl ?_)
      refine g_split 49 rfl (fun hg49 => ?_) (fun hg49 => ?_)
      ·
       try simp only [NM] at hg49
       refine g_step_yes (j := 44) (t := 49) rfl rfl rfl rfl (s_fieldAddr ty32 fo32_5 ty30 rfl rfl ?_)
       refine g_step_yes (j := 44) (t := 49) rfl rfl rfl rfl (s_val (v_loadl ty30 rfl rfl rfl rfl) rfl rfl ?_)
       refine g_step_yes (j := 44) (t := 49) rfl rfl rfl rfl (s_fieldAddr ty32 fo32_5 ty30 rfl rfl ?_)
       refine g_step_yes (j := 44) (t := 49) rfl rfl rfl rfl (s_val (v_loadl ty30 rfl rfl rfl rfl) rfl rfl ?_)
       refine g_step_yes (j := 44) (t := 49) rfl rfl rfl rfl (s_callp rfl rfl rfl (bagSame_ok a.bag b.bag _ _ _ rfl rfl hl) ?_)
       rintro _ rfl
       refine g_step rfl (s_val (v_pick_t rfl rfl) rfl rfl ?_)
       refine g_step rfl (s_val (v_assign rfl) rfl rfl ?_)
       refine g_nil ?_
       refine g_next hK1 ?_
       first | refine g_keep [4] [] [] (keep_cons rfl keep_nil) lkeep_nil keep_nil rfl ?_ | refine g_keep [4] [] [] rfl rfl rfl rfl ?_
       refine g_ret ?_
       refine g_end1 (.inl rfl) Try.results25 (.tmp rfl) [] (ASub.refl _) (AHeap.sub_refl _) (fun p hp => by cases hp) ⟨rfl, ?_⟩
       first | (obtain ⟨_, _, _, ⟨_, _⟩, _, _⟩ := a; obtain ⟨_, _, _, ⟨_, _⟩, _, _⟩ := b; simp_all; done) | (obtain ⟨_, _, _, ⟨_, _⟩, _, _⟩ := a; obtain ⟨_, _, _, ⟨_, _⟩, _, _⟩ := b; simp_all; rfl)
      ·
       try simp only [NM] at hg49
       refine g_step_no (j := 44) (t := 49) rfl rfl rfl rfl rfl rfl rfl ?_
       refine g_step_no (j := 44) (t := 49) rfl rfl rfl rfl rfl rfl rfl ?_
       refine g_step_no (j := 44) (t := 49) rfl rfl rfl rfl rfl rfl rfl ?_
       refine g_step_no (j := 44) (t := 49) rfl rfl rfl rfl rfl rfl rfl ?_
       refine g_step_no (j := 44) (t := 49) rfl rfl rfl rfl rfl rfl rfl ?_
       refine g_step rfl (s_val (v_pick_f rfl rfl) rfl rfl ?_)
       refine g_step rfl (s_val (v_assign rfl) rfl rfl ?_)
       refine g_nil ?_
       refine g_next hK1 ?_
       first | refine g_keep [4] [] [] (keep_cons rfl keep_nil) lkeep_nil keep_nil rfl ?_ | refine g_keep [4] [] [] rfl rfl rfl rfl ?_
       refine g_ret ?_
       refine g_end1 (.inl rfl) Try.results25 (.tmp rfl) [] (ASub.refl _) (AHeap.sub_refl _) (fun p hp => by cases hp) ⟨rfl, ?_⟩
       first | (obtain ⟨_, _, _, ⟨_, _⟩, _, _⟩ := a; obtain ⟨_, _, _, ⟨_, _⟩, _, _⟩ := b; simp_all; done) | (obtain ⟨_, _, _, ⟨_, _⟩, _, _⟩ := a; obtain ⟨_, _, _, ⟨_, _⟩, _, _⟩ := b; simp_all; rfl)
     ·
      try simp only [NM] at hg42
      refine g_step_no (j := 37) (t := 42) rfl rfl rfl rfl rfl rfl rfl ?_
      refine g_step_no (j := 37) (t := 42) rfl rfl rfl rfl rfl rfl rfl ?_
      refine g_step_no (j := 37) (t := 42) rfl rfl rfl rfl rfl rfl rfl ?_
      refine g_step_no (j := 37) (t := 42) rfl rfl rfl rfl rfl rfl rfl ?_
      refine g_step_no (j := 37) (t := 42) rfl rfl rfl rfl rfl rfl rfl ?_
      refine g_step rfl (s_val (v_pick_f rfl rfl) rfl rfl ?_)
      refine g_step rfl (s_val (v_move rfl) rfl rfl ?_)
      refine g_step_no (j := 44) (t := 49) rfl rfl rfl rfl rfl rfl rfl ?_
      refine g_step_no (j := 44) (t := 49) rfl rfl rfl rfl rfl rfl rfl ?_
      refine g_step_no (j := 44) (t := 49) rfl rfl rfl rfl rfl rfl rfl ?_
      refine g_step_no (j := 44) (t := 49) rfl rfl rfl rfl rfl rfl rfl ?_
      refine g_step_no (j := 44) (t := 49) rfl rfl rfl rfl rfl rfl rfl ?_
      refine g_step rfl (s_val (v_pick_f rfl rfl) rfl rfl ?_)
      refine g_step rfl (s_val (v_assign rfl) rfl rfl ?_)
      refine g_nil ?_
      refine g_next hK1 ?_
      first | refine g_keep [4] [] [] (keep_cons rfl keep_nil) lkeep_nil keep_nil rfl ?_ | refine g_keep [4] [] [] rfl rfl rfl rfl ?_
      refine g_ret ?_
      refine g_end1 (.inl rfl) Try.results25 (.tmp rfl) [] (ASub.refl _) (AHeap.sub_refl _) (fun p hp => by cases hp) ⟨rfl, ?_⟩
      first | (obtain ⟨_, _, _, ⟨_, _⟩, _, _⟩ := a; obtain ⟨_, _, _, ⟨_, _⟩, _, _⟩ := b; simp_all; done) | (obtain ⟨_, _, _, ⟨_, _⟩, _, _⟩ := a; obtain ⟨_, _, _, ⟨_, _⟩, _, _⟩ := b; simp_all; rfl)
    ·
     try simp only [NM] at hg33
     refine g_step_no (j := 28) (t := 33) rfl rfl rfl rfl rfl rfl rfl ?_
     refine g_step_no (j := 28) (t := 33) rfl rfl rfl rfl rfl rfl rfl ?_
     refine g_step_no (j := 28) (t := 33) rfl rfl rfl rfl rfl rfl rfl ?_
     refine g_step_no (j := 28) (t := 33) rfl rfl rfl rfl rfl rfl rfl ?_
     refine g_step_no (j := 28) (t := 33) rfl rfl rfl rfl rfl rfl rfl ?_
     refine g_step_no (j := 28) (t := 33) rfl rfl rfl rfl rfl rfl rfl ?_
     refine g_step_no (j := 28) (t := 33) rfl rfl rfl rfl rfl rfl rfl ?_
     refine g_step rfl (s_val (v_pick_f rfl rfl) rfl rfl ?_)
     refine g_step rfl (s_val (v_move rfl) rfl rfl ?_)
     refine g_step_no (j := 37) (t := 42) rfl rfl rfl rfl rfl rfl rfl ?_
     refine g_step_no (j := 37) (t := 42) rfl rfl rfl rfl rfl rfl rfl ?_
     refine g_step_no (j := 37) (t := 42) rfl rfl rfl rfl rfl rfl rfl ?_
     refine g_step_no (j := 37) (t := 42) rfl rfl rfl rfl rfl rfl rfl ?_
     refine g_step_no (j := 37) (t := 42) rfl rfl rfl rfl rfl rfl rfl ?_
     refine g_step rfl (s_val (v_pick_f rfl rfl) rfl rfl ?_)
     refine g_step rfl (s_val (v_move rfl) rfl rfl ?_)
     refine g_step_no (j := 44) (t := 49) rfl rfl rfl rfl rfl rfl rfl ?_
     refine g_step_no (j := 44) (t := 49) rfl rfl rfl rfl rfl rfl rfl ?_
     refine g_step_no (j := 44) (t := 49) rfl rfl rfl rfl rfl rfl rfl ?_
     refine g_step_no (j := 44) (t := 49) rfl rfl rfl rfl rfl rfl rfl ?_
     refine g_step_no (j := 44) (t := 49) rfl rfl rfl rfl rfl rfl rfl ?_
     refine g_step rfl (s_val (v_pick_f rfl rfl) rfl rfl ?_)
     refine g_step rfl (s_val (v_assign rfl) rfl rfl ?_)
     refine g_nil ?_
     refine g_next hK1 ?_
     first | refine g_keep [4] [] [] (keep_cons rfl keep_nil) lkeep_nil keep_nil rfl ?_ | refine g_keep [4] [] [] rfl rfl rfl rfl ?_
     refine g_ret ?_
     refine g_end1 (.inl rfl) Try.results25 (.tmp rfl) [] (ASub.refl _) (AHeap.sub_refl _) (fun p hp => by cases hp) ⟨rfl, ?_⟩
     first | (obtain ⟨_, _, _, ⟨_, _⟩, _, _⟩ := a; obtain ⟨_, _, _, ⟨_, _⟩, _, _⟩ := b; simp_all; done) | (obtain ⟨_, _, _, ⟨_, _⟩, _, _⟩ := a; obtain ⟨_, _, _, ⟨_, _⟩, _, _⟩ := b; simp_all; rfl)
   ·
    try simp only [NM] at hg24
    refine g_step_no (j := 19) (t := 24) rfl rfl rfl rfl rfl rfl rfl ?_
    refine g_step_no (j := 19) (t := 24) rfl rfl rfl rfl rfl rfl rfl ?_
    refine g_step_no (j := 19) (t := 24) rfl rfl rfl rfl rfl rfl rfl ?_
    refine g_step_no (j := 19) (t := 24) rfl rfl rfl rfl rfl rfl rfl ?_
    refine g_step_no (j := 19) (t := 24) rfl rfl rfl rfl rfl rfl rfl ?_
    refine g_step_no (j := 19) (t := 24) rfl rfl rfl rfl rfl rfl rfl ?_
    refine g_step_no (j := 19) (t := 24) rfl rfl rfl rfl rfl rfl rfl ?_
    refine g_step rfl (s_val (v_pick_f rfl rfl) rfl rfl ?_)
    refine g_step rfl (s_val (v_move rfl) rfl rfl ?_)
    refine g_step_no (j := 28) (t := 33) rfl rfl rfl rfl rfl rfl rfl ?_
    refine g_step_no (j := 28) (t := 33) rfl rfl rfl rfl rfl rfl rfl ?_
    refine g_step_no (j := 28) (t := 33) rfl rfl rfl rfl rfl rfl rfl ?_
    refine g_step_no (j := 28) (t := 33) rfl rfl rfl rfl rfl rfl rfl ?_
    refine g_step_no (j := 28) (t := 33) rfl rfl rfl rfl rfl rfl rfl ?_
    refine g_step_no (j := 28) (t := 33) rfl rfl rfl rfl rfl rfl rfl ?_
    refine g_step_no (j := 28) (t := 33) rfl rfl rfl rfl rfl rfl rfl ?_
    refine g_step rfl (s_val (v_pick_f rfl rfl) rfl rfl ?_)
    refine g_step rfl (s_val (v_move rfl) rfl rfl ?_)
    refine g_step_no (j := 37) (t := 42) rfl rfl rfl rfl rfl rfl rfl ?_
    refine g_step_no (j := 37) (t := 42) rfl rfl rfl rfl rfl rfl rfl ?_
    refine g_step_no (j := 37) (t := 42) rfl rfl rfl rfl rfl rfl rfl ?_
    refine g_step_no (j := 37) (t := 42) rfl rfl rfl rfl rfl rfl rfl ?_
    refine g_step_no (j := 37) (t := 42) rfl rfl rfl rfl rfl rfl rfl ?_
    refine g_step rfl (s_val (v_pick_f rfl rfl) rfl rfl ?_)
    refine g_step rfl (s_val (v_move rfl) rfl rfl ?_)
    refine g_step_no (j := 44) (t := 49) rfl rfl rfl rfl rfl rfl rfl ?_
    refine g_step_no (j := 44) (t := 49) rfl rfl rfl rfl rfl rfl rfl ?_
    refine g_step_no (j := 44) (t := 49) rfl rfl rfl rfl rfl rfl rfl ?_
    refine g_step_no (j := 44) (t := 49) rfl rfl rfl rfl rfl rfl rfl ?_
    refine g_step_no (j := 44) (t := 49) rfl rfl rfl rfl rfl rfl rfl ?_
    refine g_step rfl (s_val (v_pick_f rfl rfl) rfl rfl ?_)
    refine g_step rfl (s_val (v_assign rfl) rfl rfl ?_)
    refine g_nil ?_
    refine g_next hK1 ?_
    first | refine g_keep [4] [] [] (keep_cons rfl keep_nil) lkeep_nil keep_nil rfl ?_ | refine g_keep [4] [] [] rfl rfl rfl rfl ?_
    refine g_ret ?_
    refine g_end1 (.inl rfl) Try.results25 (.tmp rfl) [] (ASub.refl _) (AHeap.sub_refl _) (fun p hp => by cases hp) ⟨rfl, ?_⟩
    first | (obtain ⟨_, _, _, ⟨_, _⟩, _, _⟩ := a; obtain ⟨_, _, _, ⟨_, _⟩, _, _⟩ := b; simp_all; done) | (obtain ⟨_, _, _, ⟨_, _⟩, _, _⟩ := a; obtain ⟨_, _, _, ⟨_, _⟩, _, _⟩ := b; simp_all; rfl)
  ·
   try simp only [NM] at hg17
   refine g_step_no (j := 12) (t := 17) rfl rfl rfl rfl rfl rfl rfl ?_
   refine g_step_no (j := 12) (t := 17) rfl rfl rfl rfl rfl rfl rfl ?_
   refine g_step_no (j := 12) (t := 17) rfl rfl rfl rfl rfl rfl rfl ?_
   refine g_step_no (j := 12) (t := 17) rfl rfl rfl rfl rfl rfl rfl ?_
   refine g_step_no (j := 12) (t := 17) rfl rfl rfl rfl rfl rfl rfl ?_
   refine g_step rfl (s_val (v_pick_f rfl rfl) rfl rfl ?_)
   refine g_step rfl (s_val (v_move rfl) rfl rfl ?_)
   refine g_step_no (j := 19) (t := 24) rfl rfl rfl rfl rfl rfl rfl ?_
   refine g_step_no (j := 19) (t := 24) rfl rfl rfl rfl rfl rfl rfl ?_
   refine g_step_no (j := 19) (t := 24) rfl rfl rfl rfl rfl rfl rfl ?_
   refine g_step_no (j := 19) (t := 24) rfl rfl rfl rfl rfl rfl rfl ?_
   refine g_step_no (j := 19) (t := 24) rfl rfl rfl rfl rfl rfl rfl ?_
   refine g_step_no (j := 19) (t := 24) rfl rfl rfl rfl rfl rfl rfl ?_
   refine g_step_no (j := 19) (t := 24) rfl rfl rfl rfl rfl rfl rfl ?_
   refine g_step rfl (s_val (v_pick_f rfl rfl) rfl rfl ?_)
   refine g_step rfl (s_val (v_move rfl) rfl rfl ?_)
   refine g_step_no (j := 28) (t := 33) rfl rfl rfl rfl rfl rfl rfl ?_
   refine g_step_no (j := 28) (t := 33) rfl rfl rfl rfl rfl rfl rfl ?_
   refine g_step_no (j := 28) (t := 33) rfl rfl rfl rfl rfl rfl rfl ?_
   refine g_step_no (j := 28) (t := 33) rfl rfl rfl rfl rfl rfl rfl ?_
   refine g_step_no (j := 28) (t := 33) rfl rfl rfl rfl rfl rfl rfl ?_
   refine g_step_no (j := 28) (t := 33) rfl rfl rfl rfl rfl rfl rfl ?_
   refine g_step_no (j := 28) (t := 33) rfl rfl rfl rfl rfl rfl rfl ?_
   refine g_step rfl (s_val (v_pick_f rfl rfl) rfl rfl ?_)
   refine g_step rfl (s_val (v_move rfl) rfl rfl ?_)
   refine g_step_no (j := 37) (t := 42) rfl rfl rfl rfl rfl rfl rfl ?_
   refine g_step_no (j := 37) (t := 42) rfl rfl rfl rfl rfl rfl rfl ?_
   refine g_step_no (j := 37) (t := 42) rfl rfl rfl rfl rfl rfl rfl ?_
   refine g_step_no (j := 37) (t := 42) rfl rfl rfl rfl rfl rfl rfl ?_
   refine g_step_no (j := 37) (t := 42) rfl rfl rfl rfl rfl rfl rfl ?_
   refine g_step rfl (s_val (v_pick_f rfl rfl) rfl rfl ?_)
   refine g_step rfl (s_val (v_move rfl) rfl rfl ?_)
   refine g_step_no (j := 44) (t := 49) rfl rfl rfl rfl rfl rfl rfl ?_
   refine g_step_no (j := 44) (t := 49) rfl rfl rfl rfl rfl rfl rfl ?_
   refine g_step_no (j := 44) (t := 49) rfl rfl rfl rfl rfl rfl rfl ?_
   refine g_step_no (j := 44) (t := 49) rfl rfl rfl rfl rfl rfl rfl ?_
   refine g_step_no (j := 44) (t := 49) rfl rfl rfl rfl rfl rfl rfl ?_
   refine g_step rfl (s_val (v_pick_f rfl rfl) rfl rfl ?_)
   refine g_step rfl (s_val (v_assign rfl) rfl rfl ?_)
   refine g_nil ?_
   refine g_next hK1 ?_
   first | refine g_keep [4] [] [] (keep_cons rfl keep_nil) lkeep_nil keep_nil rfl ?_ | refine g_keep [4] [] [] rfl rfl rfl rfl ?_
   refine g_ret ?_
   refine g_end1 (.inl rfl) Try.results25 (.tmp rfl) [] (ASub.refl _) (AHeap.sub_refl _) (fun p hp => by cases hp) ⟨rfl, ?_⟩
   first | (obtain ⟨_, _, _, ⟨_, _⟩, _, _⟩ := a; obtain ⟨_, _, _, ⟨_, _⟩, _, _⟩ := b; simp_all; done) | (obtain ⟨_, _, _, ⟨_, _⟩, _, _⟩ := a; obtain ⟨_, _, _, ⟨_, _⟩, _, _⟩ := b; simp_all; rfl)
 ·
  try simp only [NM] at hg10
  refine g_step_no (j := 5) (t := 10) rfl rfl rfl rfl rfl rfl rfl ?_
  refine g_step_no (j := 5) (t := 10) rfl rfl rfl rfl rfl rfl rfl ?_
  refine g_step_no (j := 5) (t := 10) rfl rfl rfl rfl rfl rfl rfl ?_
  refine g_step_no (j := 5) (t := 10) rfl rfl rfl rfl rfl rfl rfl ?_
  refine g_step_no (j := 5) (t := 10) rfl rfl rfl rfl rfl rfl rfl ?_
  refine g_step rfl (s_val (v_pick_f rfl rfl) rfl rfl ?_)
  refine g_step rfl (s_val (v_move rfl) rfl rfl ?_)
  refine g_step_no (j := 12) (t := 17) rfl rfl rfl rfl rfl rfl rfl ?_
  refine g_step_no (j := 12) (t := 17) rfl rfl rfl rfl rfl rfl rfl ?_
  refine g_step_no (j := 12) (t := 17) rfl rfl rfl rfl rfl rfl rfl ?_
  refine g_step_no (j := 12) (t := 17) rfl rfl rfl rfl rfl rfl rfl ?_
  refine g_step_no (j := 12) (t := 17) rfl rfl rfl rfl rfl rfl rfl ?_
  refine g_step rfl (s_val (v_pick_f rfl rfl) rfl rfl ?_)
  refine g_step rfl (s_val (v_move rfl) rfl rfl ?_)
  refine g_step_no (j := 19) (t := 24) rfl rfl rfl rfl rfl rfl rfl ?_
  refine g_step_no (j := 19) (t := 24) rfl rfl rfl rfl rfl rfl rfl ?_
  refine g_step_no (j := 19) (t := 24) rfl rfl rfl rfl rfl rfl rfl ?_
  refine g_step_no (j := 19) (t := 24) rfl rfl rfl rfl rfl rfl rfl ?_
  refine g_step_no (j := 19) (t := 24) rfl rfl rfl rfl rfl rfl rfl ?_
  refine g_step_no (j := 19) (t := 24) rfl rfl rfl rfl rfl rfl rfl ?_
  refine g_step_no (j := 19) (t := 24) rfl rfl rfl rfl rfl rfl rfl ?_
  refine g_step rfl (s_val (v_pick_f rfl rfl) rfl rfl ?_)
  refine g_step rfl (s_val (v_move rfl) rfl rfl ?_)
  refine g_step_no (j := 28) (t := 33) rfl rfl rfl rfl rfl rfl rfl ?_
  refine g_step_no (j := 28) (t := 33) rfl rfl rfl rfl rfl rfl rfl ?_
  refine g_step_no (j := 28) (t := 33) rfl rfl rfl rfl rfl rfl rfl ?_
  refine g_step_no (j := 28) (t := 33) rfl rfl rfl rfl rfl rfl rfl ?_
  refine g_step_no (j := 28) (t := 33) rfl rfl rfl rfl rfl rfl rfl ?_
  refine g_step_no (j := 28) (t := 33) rfl rfl rfl rfl rfl rfl rfl ?_
  refine g_step_no (j := 28) (t := 33) rfl rfl rfl rfl rfl rfl rfl ?_
  refine g_step rfl (s_val (v_pick_f rfl rfl) rfl rfl ?_)
  refine g_step rfl (s_val (v_move rfl) rfl rfl ?_)
  refine g_step_no (j := 37) (t := 42) rfl rfl rfl rfl rfl rfl rfl ?_
  refine g_step_no (j := 37) (t := 42) rfl rfl rfl rfl rfl rfl rfl ?_
  refine g_step_no (j := 37) (t := 42) rfl rfl rfl rfl rfl rfl rfl ?_
  refine g_step_no (j := 37) (t := 42) rfl rfl rfl rfl rfl rfl rfl ?_
  refine g_step_no (j := 37) (t := 42) rfl rfl rfl rfl rfl rfl rfl ?_
  refine g_step rfl (s_val (v_pick_f rfl rfl) rfl rfl ?_)
  refine g_step rfl (s_val (v_move rfl) rfl rfl ?_)
  refine g_step_no (j := 44) (t := 49) rfl rfl rfl rfl rfl rfl rfl ?_
  refine g_step_no (j := 44) (t := 49) rfl rfl rfl rfl rfl rfl rfl ?_
  refine g_step_no (j := 44) (t := 49) rfl rfl rfl rfl rfl rfl rfl ?_
  refine g_step_no (j := 44) (t := 49) rfl rfl rfl rfl rfl rfl rfl ?_
  refine g_step_no (j := 44) (t := 49) rfl rfl rfl rfl rfl rfl rfl ?_
  refine g_step rfl (s_val (v_pick_f rfl rfl) rfl rfl ?_)
  refine g_step rfl (s_val (v_assign rfl) rfl rfl ?_)
  refine g_nil ?_
  refine g_next hK1 ?_
  first | refine g_keep [4] [] [] (keep_cons rfl keep_nil) lkeep_nil keep_nil rfl ?_ | refine g_keep [4] [] [] rfl rfl rfl rfl ?_
  refine g_ret ?_
  refine g_end1 (.inl rfl) Try.results25 (.tmp rfl) [] (ASub.refl _) (AHeap.sub_refl _) (fun p hp => by cases hp) ⟨rfl, ?_⟩
  first | (obtain ⟨_, _, _, ⟨_, _⟩, _, _⟩ := a; obtain ⟨_, _, _, ⟨_, _⟩, _, _⟩ := b; simp_all; done) | (obtain ⟨_, _, _, ⟨_, _⟩, _, _⟩ := a; obtain ⟨_, _, _, ⟨_, _⟩, _, _⟩ := b; simp_all; rfl)

end Go.Proofs.Ytgedefcjngofkaa

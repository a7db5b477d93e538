import Derived.Test.YtgedefcjngofkaaRec2
import Derived.Test.YtgedefcjngofkaaPPlan
set_option maxHeartbeats 8000000
set_option linter.unusedSimpArgs false
set_option linter.unusedVariables false
set_option maxRecDepth 100000
namespace Go.Proofs.Ytgedefcjngofkaa
open Go Go.Proofs.Ytgedefcjngofkaa.AM
theorem isGate_ok (g : Int) (G : AHeap) : PCalls Try.prog 75 [.int .i64 g] G (fun r => r = .bool (isGate g)) := by
 refine LCalls.intro 9 fi75 rfl Try.ntmps75 rfl (fun _ h => h.elim) (fun H hH w0 hw0 => ?_)
 refine g_seq (fun K0 hK0 => ?_)
 refine g_region ?_
 refine g_step rfl (s_val (v_assign rfl) rfl rfl ?_)
 refine g_nil ?_
 refine g_next hK0 ?_
 refine g_seq (fun K1 hK1 => ?_)
 refine g_region ?_
 refine g_step rfl (s_val (v_move rfl) rfl rfl ?_)
 refine g_step rfl (s_val (v_geq rfl rfl) rfl rfl ?_)
 refine g_step rfl (s_val (v_move rfl) rfl rfl ?_)
 refine g_split 5 rfl (fun hg5 => ?_) (fun hg5 => ?_)
 ·
  try simp only [NM] at hg5
  refine g_step_yes (j := 2) (t := 5) rfl rfl rfl rfl (s_val (v_move rfl) rfl rfl ?_)
  refine g_step_yes (j := 2) (t := 5) rfl rfl rfl rfl (s_val (v_leq rfl rfl) rfl rfl ?_)
  refine g_step rfl (s_val (v_pick_t rfl rfl) rfl rfl ?_)
  refine g_step rfl (s_val (v_assign rfl) rfl rfl ?_)
  refine g_nil ?_
  refine g_next hK1 ?_
  refine g_ret ?_
  refine g_end1 (.inl rfl) Try.results75 (.tmp rfl) [] (ASub.refl _) (AHeap.sub_refl _) (fun p hp => by cases hp) ⟨rfl, ?_⟩
  first | (simp [isGate] <;> omega; done) | (simp [isGate] <;> omega; rfl)
 ·
  try simp only [NM] at hg5
  refine g_step_no (j := 2) (t := 5) rfl rfl rfl rfl rfl rfl rfl ?_
  refine g_step_no (j := 2) (t := 5) rfl rfl rfl rfl rfl rfl rfl ?_
  refine g_step rfl (s_val (v_pick_f rfl rfl) rfl rfl ?_)
  refine g_step rfl (s_val (v_assign rfl) rfl rfl ?_)
  refine g_nil ?_
  refine g_next hK1 ?_
  refine g_ret ?_
  refine g_end1 (.inl rfl) Try.results75 (.tmp rfl) [] (ASub.refl _) (AHeap.sub_refl _) (fun p hp => by cases hp) ⟨rfl, ?_⟩
  first | (simp [isGate] <;> omega; done) | (simp [isGate] <;> omega; rfl)

theorem gcounts_ok (r : Rc) (G : AHeap) : PCalls Try.prog 76 [encR r] G (fun v => v = .bool (cnt r)) := by
 refine LCalls.intro 11 fi76 rfl Try.ntmps76 rfl (fun _ h => h.elim) (fun H hH w0 hw0 => ?_)
 refine g_seq (fun K0 hK0 => ?_)
 refine g_region ?_
 refine g_step rfl (s_box rfl rfl rfl rfl ?_)
 refine g_step rfl (s_val (v_assign rfl) rfl rfl ?_)
 refine g_nil ?_
 refine g_next hK0 ?_
 refine g_seq (fun K1 hK1 => ?_)
 refine g_region ?_
 refine g_step rfl (s_fieldAddr ty32 fo32_2 ty3 rfl rfl ?_)
 refine g_step rfl (s_val (v_loadl ty3 rfl rfl rfl rfl) rfl rfl ?_)
 refine g_step rfl (s_val (v_neq rfl rfl) rfl rfl ?_)
 refine g_step rfl (s_val (v_move rfl) rfl rfl ?_)
 refine g_split 6 rfl (fun hg6 => ?_) (fun hg6 => ?_)
 ·
  try simp only [NM] at hg6
  refine g_step_yes (j := 3) (t := 6) rfl rfl rfl rfl (s_fieldAddr ty32 fo32_2 ty3 rfl rfl ?_)
  refine g_step_yes (j := 3) (t := 6) rfl rfl rfl rfl (s_val (v_loadl ty3 rfl rfl rfl rfl) rfl rfl ?_)
  refine g_step_yes (j := 3) (t := 6) rfl rfl rfl rfl (s_val (v_neq rfl rfl) rfl rfl ?_)
  refine g_step rfl (s_val (v_pick_t rfl rfl) rfl rfl ?_)
  refine g_step rfl (s_val (v_assign rfl) rfl rfl ?_)
  refine g_nil ?_
  refine g_next hK1 ?_
  refine g_ret ?_
  refine g_end1 (.inl rfl) Try.results76 (.tmp rfl) [] (ASub.refl _) (AHeap.sub_refl _) (fun p hp => by cases hp) ⟨rfl, ?_⟩
  first | (simp_all [cnt]; done) | (simp_all [cnt]; rfl)
 ·
  try simp only [NM] at hg6
  refine g_step_no (j := 3) (t := 6) rfl rfl rfl rfl rfl rfl rfl ?_
  refine g_step_no (j := 3) (t := 6) rfl rfl rfl rfl rfl rfl rfl ?_
  refine g_step_no (j := 3) (t := 6) rfl rfl rfl rfl rfl rfl rfl ?_
  refine g_step rfl (s_val (v_pick_f rfl rfl) rfl rfl ?_)
  refine g_step rfl (s_val (v_assign rfl) rfl rfl ?_)
  refine g_nil ?_
  refine g_next hK1 ?_
  refine g_ret ?_
  refine g_end1 (.inl rfl) Try.results76 (.tmp rfl) [] (ASub.refl _) (AHeap.sub_refl _) (fun p hp => by cases hp) ⟨rfl, ?_⟩
  first | (simp_all [cnt]; done) | (simp_all [cnt]; rfl)

theorem pcounts_ok (r : Rc) (G : AHeap) : PCalls Try.prog 55 [encR r] G (fun v => v = .bool (cnt r)) := by
 refine LCalls.intro 11 fi55 rfl Try.ntmps55 rfl (fun _ h => h.elim) (fun H hH w0 hw0 => ?_)
 refine g_seq (fun K0 hK0 => ?_)
 refine g_region ?_
 refine g_step rfl (s_box rfl rfl rfl rfl ?_)
 refine g_step rfl (s_val (v_assign rfl) rfl rfl ?_)
 refine g_nil ?_
 refine g_next hK0 ?_
 refine g_seq (fun K1 hK1 => ?_)
 refine g_region ?_
 refine g_step rfl (s_fieldAddr ty32 fo32_2 ty3 rfl rfl ?_)
 refine g_step rfl (s_val (v_loadl ty3 rfl rfl rfl rfl) rfl rfl ?_)
 refine g_step rfl (s_val (v_neq rfl rfl) rfl rfl ?_)
 refine g_step rfl (s_val (v_move rfl) rfl rfl ?_)
 refine g_split 6 rfl (fun hg6 => ?_) (fun hg6 => ?_)
 ·
  try simp only [NM] at hg6
  refine g_step_yes (j := 3) (t := 6) rfl rfl rfl rfl (s_fieldAddr ty32 fo32_2 ty3 rfl rfl ?_)
  refine g_step_yes (j := 3) (t := 6) rfl rfl rfl rfl (s_val (v_loadl ty3 rfl rfl rfl rfl) rfl rfl ?_)
  refine g_step_yes (j := 3) (t := 6) rfl rfl rfl rfl (s_val (v_neq rfl rfl) rfl rfl ?_)
  refine g_step rfl (s_val (v_pick_t rfl rfl) rfl rfl ?_)
  refine g_step rfl (s_val (v_assign rfl) rfl rfl ?_)
  refine g_nil ?_
  refine g_next hK1 ?_
  refine g_ret ?_
  refine g_end1 (.inl rfl) Try.results55 (.tmp rfl) [] (ASub.refl _) (AHeap.sub_refl _) (fun p hp => by cases hp) ⟨rfl, ?_⟩
  first | (simp_all [cnt]; done) | (simp_all [cnt]; rfl)
 ·
  try simp only [NM] at hg6
  refine g_step_no (j := 3) (t := 6) rfl rfl rfl rfl rfl rfl rfl ?_
  refine g_step_no (j := 3) (t := 6) rfl rfl rfl rfl rfl rfl rfl ?_
  refine g_step_no (j := 3) (t := 6) rfl rfl rfl rfl rfl rfl rfl ?_
  refine g_step rfl (s_val (v_pick_f rfl rfl) rfl rfl ?_)
  refine g_step rfl (s_val (v_assign rfl) rfl rfl ?_)
  refine g_nil ?_
  refine g_next hK1 ?_
  refine g_ret ?_
  refine g_end1 (.inl rfl) Try.results55 (.tmp rfl) [] (ASub.refl _) (AHeap.sub_refl _) (fun p hp => by cases hp) ⟨rfl, ?_⟩
  first | (simp_all [cnt]; done) | (simp_all [cnt]; rfl)

theorem counts32_ok (r : Rc) (G : AHeap) : PCalls Try.prog 17 [encR r] G (fun v => v = .bool (cnt r)) := by
 refine LCalls.intro 11 fi17 rfl Try.ntmps17 rfl (fun _ h => h.elim) (fun H hH w0 hw0 => ?_)
 refine g_seq (fun K0 hK0 => ?_)
 refine g_region ?_
 refine g_step rfl (s_box rfl rfl rfl rfl ?_)
 refine g_step rfl (s_val (v_assign rfl) rfl rfl ?_)
 refine g_nil ?_
 refine g_next hK0 ?_
 refine g_seq (fun K1 hK1 => ?_)
 refine g_region ?_
 refine g_step rfl (s_fieldAddr ty32 fo32_2 ty3 rfl rfl ?_)
 refine g_step rfl (s_val (v_loadl ty3 rfl rfl rfl rfl) rfl rfl ?_)
 refine g_step rfl (s_val (v_neq rfl rfl) rfl rfl ?_)
 refine g_step rfl (s_val (v_move rfl) rfl rfl ?_)
 refine g_split 6 rfl (fun hg6 => ?_) (fun hg6 => ?_)
 ·
  try simp only [NM] at hg6
  refine g_step_yes (j := 3) (t := 6) rfl rfl rfl rfl (s_fieldAddr ty32 fo32_2 ty3 rfl rfl ?_)
  refine g_step_yes (j := 3) (t := 6) rfl rfl rfl rfl (s_val (v_loadl ty3 rfl rfl rfl rfl) rfl rfl ?_)
  refine g_step_yes (j := 3) (t := 6) rfl rfl rfl rfl (s_val (v_neq rfl rfl) rfl rfl ?_)
  refine g_step rfl (s_val (v_pick_t rfl rfl) rfl rfl ?_)
  refine g_step rfl (s_val (v_assign rfl) rfl rfl ?_)
  refine g_nil ?_
  refine g_next hK1 ?_
  refine g_ret ?_
  refine g_end1 (.inl rfl) Try.results17 (.tmp rfl) [] (ASub.refl _) (AHeap.sub_refl _) (fun p hp => by cases hp) ⟨rfl, ?_⟩
  first | (simp_all [cnt]; done) | (simp_all [cnt]; rfl)
 ·
  try simp only [NM] at hg6
  refine g_step_no (j := 3) (t := 6) rfl rfl rfl rfl rfl rfl rfl ?_
  refine g_step_no (j := 3) (t := 6) rfl rfl rfl rfl rfl rfl rfl ?_
  refine g_step_no (j := 3) (t := 6) rfl rfl rfl rfl rfl rfl rfl ?_
  refine g_step rfl (s_val (v_pick_f rfl rfl) rfl rfl ?_)
  refine g_step rfl (s_val (v_assign rfl) rfl rfl ?_)
  refine g_nil ?_
  refine g_next hK1 ?_
  refine g_ret ?_
  refine g_end1 (.inl rfl) Try.results17 (.tmp rfl) [] (ASub.refl _) (AHeap.sub_refl _) (fun p hp => by cases hp) ⟨rfl, ?_⟩
  first | (simp_all [cnt]; done) | (simp_all [cnt]; rfl)

theorem bars_ok (l : List Rc) (g : Int) (G : AHeap) (va : AV) (hva : va.view G = some (l.map encR)) (hl : l.length ≤ 1000000) : PCalls Try.prog 35 [va, .int .i64 g] G (fun v => v = .imm ((barsL l g).map (.int .i64))) := by
 refine LCalls.intro 34 fi35 rfl Try.ntmps35 rfl (fun _ h => h.elim) (fun H hH w0 hw0 => ?_)
 have hva := view_sub hH hva
 refine g_seq (fun K0 hK0 => ?_)
 refine g_region ?_
 refine g_step rfl (s_val (v_assign rfl) rfl rfl ?_)
 refine g_nil ?_
 refine g_next hK0 ?_
 refine g_seq (fun K1 hK1 => ?_)
 refine g_region ?_
 refine g_step rfl (s_val (v_assign rfl) rfl rfl ?_)
 refine g_nil ?_
 refine g_next hK1 ?_
 refine g_seq (fun K2 hK2 => ?_)
 refine g_seq (fun K3 hK3 => ?_)
 refine g_region ?_
 refine g_step rfl (s_val (v_move rfl) rfl rfl ?_)
 refine g_step rfl (s_val (v_len ty22 rfl hva (by first | exact List.length_map .. | rfl)) rfl rfl ?_)
 refine g_step rfl (s_val (v_move rfl) rfl rfl ?_)
 refine g_nil ?_
 refine g_next hK3 ?_
 refine g_block ?_
 first | refine g_keep [1, 5, 8, 9, 10] [] [] (keep_cons rfl (keep_cons rfl (keep_cons rfl (keep_cons rfl (keep_cons rfl keep_nil))))) lkeep_nil keep_nil rfl ?_ | refine g_keep [1, 5, 8, 9, 10] [] [] rfl rfl rfl rfl ?_
 refine g_loop (fun n env L B G => ∃ (k : Nat) (av : AV), k ≤ l.length ∧ n = l.length - k ∧ env = [(1, .int .i64 g), (5, av), (8, va), (9, .int .i64 (l.length : Int)), (10, .int .i64 (k : Int))] ∧ L = [] ∧ B = [] ∧ Own w0.heap.size 1 H av ((((l.take k).filter (barsP g)).map (·.id)).map (.int .i64)) G) (l.length) ⟨0, .nil0, Nat.zero_le _, rfl, rfl, rfl, rfl, Own.nil ..⟩ (fun n env L B G hI => ?_)
 obtain ⟨k, av, hk, rfl, rfl, rfl, rfl, hown⟩ := hI
 have hva2 := view_sub hown.sub hva
 refine g_seq (fun K4 hK4 => ?_)
 refine g_region ?_
 refine g_step rfl (s_val (v_lss rfl rfl) rfl rfl ?_)
 refine g_nil ?_
 refine g_next hK4 ?_
 refine g_seq (fun K5 hK5 => ?_)
 refine g_cond rfl (fun hc11 => ?_) (fun hc11 => ?_)
 ·
  try simp only [NM] at hc11
  obtain ⟨x, hx⟩ := get_some (l := l) (k := k) (by omega)
  have hfl := List.length_filter_le (barsP g) (l.take k)
  rw [List.length_take] at hfl
  refine g_skip ?_
  refine g_next hK5 ?_
  refine g_seq (fun K6 hK6 => ?_)
  refine g_block ?_
  refine g_seq (fun K7 hK7 => ?_)
  refine g_region ?_
  refine g_step rfl (s_val (v_indexAddr ty22 ty32 rfl rfl hva2 (by first | rfl | exact (rfl : (0 : Int) = ((0 : Nat) : Int)) | exact (Int.toNat_of_nonneg (by omega)).symm) (map_get hx) rfl) rfl rfl ?_)
  refine g_step rfl (s_val (by first | exact v_load_elt ty32 rfl rfl hva2 (map_get hx) rfl rfl | exact v_load_box_all ty32 rfl rfl (by assumption) rfl rfl | exact v_load_part (cs := [_, _, _, _, _, _, _]) ty32 rfl rfl hva2 (map_get hx) rfl rfl rfl | exact v_load_box_part (cs := [_, _, _, _, _, _, _]) ty32 rfl rfl (by assumption) rfl rfl rfl) rfl rfl ?_)
  refine g_step rfl (s_alloc (av := (.agg [(.int .i64 0), (.int .i64 0), (.int .i64 0), (.int .i64 0), (.int .i64 0), (.bool false), .nil0])) ty32 rfl rfl rfl rfl ?_)
  refine g_step rfl (s_store_all ty32 rfl rfl rfl rfl rfl rfl ?_)
  refine g_nil ?_
  refine g_next hK7 ?_
  refine g_seq (fun K8 hK8 => ?_)
  refine g_region ?_
  refine g_step rfl (s_val (v_move rfl) rfl rfl ?_)
  refine g_step rfl (s_callp rfl rfl rfl (isGate_ok _ _) ?_)
  rintro _ rfl
  refine g_step rfl (s_val (v_move rfl) rfl rfl ?_)
  refine g_split 16 rfl (fun hg16 => ?_) (fun hg16 => ?_)
  ·
   try simp only [NM] at hg16
   refine g_step_yes (j := 2) (t := 16) rfl rfl rfl rfl (s_val (by first | exact v_loadl_all ty32 rfl rfl rfl rfl rfl | exact v_loadl_part (cs := [_, _, _, _, _, _, _]) ty32 rfl rfl rfl rfl rfl rfl) rfl rfl ?_)
   refine g_step_yes (j := 2) (t := 16) rfl rfl rfl rfl (s_callp rfl rfl rfl (gcounts_ok _ _) ?_)
   rintro _ rfl
   refine g_step rfl (s_val (v_pick_t rfl rfl) rfl rfl ?_)
   refine g_step rfl (s_val (v_move rfl) rfl rfl ?_)
   refine g_split 20 rfl (fun hg20 => ?_) (fun hg20 => ?_)
   ·
    try simp only [NM] at hg20
    refine g_step_yes (j := 6) (t := 20) rfl rfl rfl rfl (s_fieldAddr ty32 fo32_3 ty24 rfl rfl ?_)
    refine g_step_yes (j := 6) (t := 20) rfl rfl rfl rfl (s_fieldAddr ty24 fo24_1 ty3 rfl rfl ?_)
    refine g_step_yes (j := 6) (t := 20) rfl rfl rfl rfl (s_val (v_loadl ty3 rfl rfl rfl rfl) rfl rfl ?_)
    refine g_step_yes (j := 6) (t := 20) rfl rfl rfl rfl (s_val (v_move rfl) rfl rfl ?_)
    refine g_step_yes (j := 6) (t := 20) rfl rfl rfl rfl (s_val (v_lss rfl rfl) rfl rfl ?_)
    refine g_step rfl (s_val (v_pick_t rfl rfl) rfl rfl ?_)
    refine g_nil ?_
    refine g_next hK8 ?_
    refine g_cond rfl (fun hc26 => ?_) (fun hc26 => ?_)
    ·
     try simp only [NM] at hc26
     refine g_region ?_
     refine g_step rfl (s_val (v_move rfl) rfl rfl ?_)
     refine g_step rfl (s_fieldAddr ty32 fo32_0 ty3 rfl rfl ?_)
     refine g_step rfl (s_val (v_loadl ty3 rfl rfl rfl rfl) rfl rfl ?_)
     refine g_step rfl (s_lit ty27 ty3 rfl rfl rfl rfl rfl rfl rfl ?_)
     refine g_step rfl (s_append (l := ((((l.take k).filter (barsP g)).map (·.id)).map (.int .i64))) (m := ([x.id].map (.int .i64))) ty27 ty3 rfl rfl hown rfl rfl (by refine Even.map _ ?_ _; intro _; rfl) (by intro x hx; obtain ⟨_, _, rfl⟩ := List.mem_map.1 hx; rfl) rfl (by simp; omega) (by simp; omega) ?_)
     intro av31 G31 hown31
     refine g_step rfl (s_val (v_assign rfl) rfl rfl ?_)
     refine g_nil ?_
     refine g_block_normal ?_
     refine g_next hK6 ?_
     refine g_region ?_
     refine g_step rfl (s_val (v_add rfl rfl (by omega)) rfl rfl ?_)
     refine g_step rfl (s_val (v_move rfl) rfl rfl ?_)
     refine g_nil ?_
     first | refine g_keep [1, 5, 8, 9, 10] [] [] (keep_cons rfl (keep_cons rfl (keep_cons rfl (keep_cons rfl (keep_cons rfl keep_nil))))) lkeep_nil keep_nil rfl ?_ | refine g_keep [1, 5, 8, 9, 10] [] [] rfl rfl rfl rfl ?_
     first | exact g_round _ (by omega) ⟨k + 1, av31, by omega, rfl, rfl, rfl, rfl, by rw [filter_snoc hx, if_pos (by simp_all [barsP]), List.map_append, List.map_append]; exact hown31⟩ | exact g_round _ (by omega) ⟨k + 1, av, by omega, rfl, rfl, rfl, rfl, by rw [filter_snoc hx, if_neg (by simp_all [barsP]), List.append_nil]; exact hown⟩
    ·
     try simp only [NM] at hc26
     refine g_skip ?_
     refine g_block_normal ?_
     refine g_next hK6 ?_
     refine g_region ?_
     refine g_step rfl (s_val (v_add rfl rfl (by omega)) rfl rfl ?_)
     refine g_step rfl (s_val (v_move rfl) rfl rfl ?_)
     refine g_nil ?_
     first | refine g_keep [1, 5, 8, 9, 10] [] [] (keep_cons rfl (keep_cons rfl (keep_cons rfl (keep_cons rfl (keep_cons rfl keep_nil))))) lkeep_nil keep_nil rfl ?_ | refine g_keep [1, 5, 8, 9, 10] [] [] rfl rfl rfl rfl ?_
     first | exact g_round _ (by omega) ⟨k + 1, av31, by omega, rfl, rfl, rfl, rfl, by rw [filter_snoc hx, if_pos (by simp_all [barsP]), List.map_append, List.map_append]; exact hown31⟩ | exact g_round _ (by omega) ⟨k + 1, av, by omega, rfl, rfl, rfl, rfl, by rw [filter_snoc hx, if_neg (by simp_all [barsP]), List.append_nil]; exact hown⟩
   ·
    try simp only [NM] at hg20
    refine g_step_no (j := 6) (t := 20) rfl rfl rfl rfl rfl rfl rfl ?_
    refine g_step_no (j := 6) (t := 20) rfl rfl rfl rfl rfl rfl rfl ?_
    refine g_step_no (j := 6) (t := 20) rfl rfl rfl rfl rfl rfl rfl ?_
    refine g_step_no (j := 6) (t := 20) rfl rfl rfl rfl rfl rfl rfl ?_
    refine g_step_no (j := 6) (t := 20) rfl rfl rfl rfl rfl rfl rfl ?_
    refine g_step rfl (s_val (v_pick_f rfl rfl) rfl rfl ?_)
    refine g_nil ?_
    refine g_next hK8 ?_
    refine g_cond rfl (fun h => by cases h) (fun _ => ?_)
    refine g_skip ?_
    refine g_block_normal ?_
    refine g_next hK6 ?_
    refine g_region ?_
    refine g_step rfl (s_val (v_add rfl rfl (by omega)) rfl rfl ?_)
    refine g_step rfl (s_val (v_move rfl) rfl rfl ?_)
    refine g_nil ?_
    first | refine g_keep [1, 5, 8, 9, 10] [] [] (keep_cons rfl (keep_cons rfl (keep_cons rfl (keep_cons rfl (keep_cons rfl keep_nil))))) lkeep_nil keep_nil rfl ?_ | refine g_keep [1, 5, 8, 9, 10] [] [] rfl rfl rfl rfl ?_
    first | exact g_round _ (by omega) ⟨k + 1, av31, by omega, rfl, rfl, rfl, rfl, by rw [filter_snoc hx, if_pos (by simp_all [barsP]), List.map_append, List.map_append]; exact hown31⟩ | exact g_round _ (by omega) ⟨k + 1, av, by omega, rfl, rfl, rfl, rfl, by rw [filter_snoc hx, if_neg (by simp_all [barsP]), List.append_nil]; exact hown⟩
  ·
   try simp only [NM] at hg16
   refine g_step_no (j := 2) (t := 16) rfl rfl rfl rfl rfl rfl rfl ?_
   refine g_step_no (j := 2) (t := 16) rfl rfl rfl rfl rfl rfl rfl ?_
   refine g_step rfl (s_val (v_pick_f rfl rfl) rfl rfl ?_)
   refine g_step rfl (s_val (v_move rfl) rfl rfl ?_)
   refine g_step_no (j := 6) (t := 20) rfl rfl rfl rfl rfl rfl rfl ?_
   refine g_step_no (j := 6) (t := 20) rfl rfl rfl rfl rfl rfl rfl ?_
   refine g_step_no (j := 6) (t := 20) rfl rfl rfl rfl rfl rfl rfl ?_
   refine g_step_no (j := 6) (t := 20) rfl rfl rfl rfl rfl rfl rfl ?_
   refine g_step_no (j := 6) (t := 20) rfl rfl rfl rfl rfl rfl rfl ?_
   refine g_step rfl (s_val (v_pick_f rfl rfl) rfl rfl ?_)
   refine g_nil ?_
   refine g_next hK8 ?_
   refine g_cond rfl (fun h => by cases h) (fun _ => ?_)
   refine g_skip ?_
   refine g_block_normal ?_
   refine g_next hK6 ?_
   refine g_region ?_
   refine g_step rfl (s_val (v_add rfl rfl (by omega)) rfl rfl ?_)
   refine g_step rfl (s_val (v_move rfl) rfl rfl ?_)
   refine g_nil ?_
   first | refine g_keep [1, 5, 8, 9, 10] [] [] (keep_cons rfl (keep_cons rfl (keep_cons rfl (keep_cons rfl (keep_cons rfl keep_nil))))) lkeep_nil keep_nil rfl ?_ | refine g_keep [1, 5, 8, 9, 10] [] [] rfl rfl rfl rfl ?_
   first | exact g_round _ (by omega) ⟨k + 1, av31, by omega, rfl, rfl, rfl, rfl, by rw [filter_snoc hx, if_pos (by simp_all [barsP]), List.map_append, List.map_append]; exact hown31⟩ | exact g_round _ (by omega) ⟨k + 1, av, by omega, rfl, rfl, rfl, rfl, by rw [filter_snoc hx, if_neg (by simp_all [barsP]), List.append_nil]; exact hown⟩
 ·
  try simp only [NM] at hc11
  obtain rfl : k = l.length := by omega
  rw [List.take_length] at hown
  refine g_exit ?_
  refine g_then_exit ?_
  refine g_then_exit ?_
  refine g_block_same ?_
  refine g_next hK2 ?_
  refine g_seq (fun K9 hK9 => ?_)
  refine g_region ?_
  refine g_freeze 5 rfl hown ?_
  refine g_step rfl (s_val (v_move rfl) rfl rfl ?_)
  refine g_step rfl (s_val (v_assign rfl) rfl rfl ?_)
  refine g_nil ?_
  refine g_next hK9 ?_
  refine g_ret ?_
  refine g_end1 (.inl rfl) Try.results35 (.tmp rfl) [] (ASub.refl _) (AHeap.sub_refl _) (fun p hp => by cases hp) ⟨rfl, ?_⟩
  rfl

theorem open_ok (l : List Rc) (g : Int) (G : AHeap) (hl : l.length ≤ 1000000) : PCalls Try.prog 34 [encRs l, .int .i64 g] G (fun v => v = .bool (openB l g)) := by
 refine LCalls.intro 14 fi34 rfl Try.ntmps34 rfl (fun _ h => h.elim) (fun H hH w0 hw0 => ?_)
 refine g_seq (fun K0 hK0 => ?_)
 refine g_region ?_
 refine g_step rfl (s_val (v_assign rfl) rfl rfl ?_)
 refine g_nil ?_
 refine g_next hK0 ?_
 refine g_seq (fun K1 hK1 => ?_)
 refine g_region ?_
 refine g_step rfl (s_val (v_move rfl) rfl rfl ?_)
 refine g_step rfl (s_callp rfl rfl rfl (isGate_ok _ _) ?_)
 rintro _ rfl
 refine g_step rfl (s_val (v_move rfl) rfl rfl ?_)
 refine g_split 7 rfl (fun hg7 => ?_) (fun hg7 => ?_)
 ·
  try simp only [NM] at hg7
  refine g_step_yes (j := 2) (t := 7) rfl rfl rfl rfl (s_val (v_move rfl) rfl rfl ?_)
  refine g_step_yes (j := 2) (t := 7) rfl rfl rfl rfl (s_val (v_move rfl) rfl rfl ?_)
  refine g_step_yes (j := 2) (t := 7) rfl rfl rfl rfl (s_callp rfl rfl rfl (bars_ok l g _ _ rfl hl) ?_)
  rintro _ rfl
  refine g_step_yes (j := 2) (t := 7) rfl rfl rfl rfl (s_val (v_len ty27 rfl (by first | rfl | assumption) (by first | exact List.length_map .. | rfl)) rfl rfl ?_)
  refine g_step_yes (j := 2) (t := 7) rfl rfl rfl rfl (s_val (v_eql rfl rfl) rfl rfl ?_)
  refine g_step rfl (s_val (v_pick_t rfl rfl) rfl rfl ?_)
  refine g_step rfl (s_val (v_assign rfl) rfl rfl ?_)
  refine g_nil ?_
  refine g_next hK1 ?_
  refine g_ret ?_
  refine g_end1 (.inl rfl) Try.results34 (.tmp rfl) [] (ASub.refl _) (AHeap.sub_refl _) (fun p hp => by cases hp) ⟨rfl, ?_⟩
  first | (first | (simp_all [openB]; done) | (simp_all [openB, Int.natCast_eq_zero]); done) | (first | (simp_all [openB]; done) | (simp_all [openB, Int.natCast_eq_zero]); rfl)
 ·
  try simp only [NM] at hg7
  refine g_step_no (j := 2) (t := 7) rfl rfl rfl rfl rfl rfl rfl ?_
  refine g_step_no (j := 2) (t := 7) rfl rfl rfl rfl rfl rfl rfl ?_
  refine g_step_no (j := 2) (t := 7) rfl rfl rfl rfl rfl rfl rfl ?_
  refine g_step_no (j := 2) (t := 7) rfl rfl rfl rfl rfl rfl rfl ?_
  refine g_step_no (j := 2) (t := 7) rfl rfl rfl rfl rfl rfl rfl ?_
  refine g_step rfl (s_val (v_pick_f rfl rfl) rfl rfl ?_)
  refine g_step rfl (s_val (v_assign rfl) rfl rfl ?_)
  refine g_nil ?_
  refine g_next hK1 ?_
  refine g_ret ?_
  refine g_end1 (.inl rfl) Try.results34 (.tmp rfl) [] (ASub.refl _) (AHeap.sub_refl _) (fun p hp => by cases hp) ⟨rfl, ?_⟩
  first | (first | (simp_all [openB]; done) | (simp_all [openB, Int.natCast_eq_zero]); done) | (first | (simp_all [openB]; done) | (simp_all [openB, Int.natCast_eq_zero]); rfl)

theorem pickIO_ok (l : List Rc) (ff : Nat) (caps : List AV) (f : Rc → Int) (p : Rc → Bool) (G : AHeap) (va : AV) (hva : va.view G = some (l.map encR)) (hl : l.length ≤ 1000000) (hcall : ∀ x ∈ l, ∀ H, G.sub H → PCalls Try.prog ff ([encR x] ++ caps) H (fun v => v = .tup [(AV.int .i64) (f x), .bool (p x)])) : LCalls Try.prog 53 [va, .fn (.func ff) caps] G noD (fun n r effs => OwnR n 1 r (((l.filter p).map f).map (AV.int .i64)) effs) := by
 refine LCalls.intro 29 fi53 rfl Try.ntmps53 rfl (fun _ h => h.elim) (fun H hH w0 hw0 => ?_)
 have hva := view_sub hH hva
 refine g_seq (fun K0 hK0 => ?_)
 refine g_region ?_
 refine g_step rfl (s_val (v_assign rfl) rfl rfl ?_)
 refine g_nil ?_
 refine g_next hK0 ?_
 refine g_seq (fun K1 hK1 => ?_)
 refine g_region ?_
 refine g_step rfl (s_val (v_assign rfl) rfl rfl ?_)
 refine g_nil ?_
 refine g_next hK1 ?_
 refine g_seq (fun K2 hK2 => ?_)
 refine g_seq (fun K3 hK3 => ?_)
 refine g_region ?_
 refine g_step rfl (s_val (v_move rfl) rfl rfl ?_)
 refine g_step rfl (s_val (v_len ty22 rfl hva (by first | exact List.length_map .. | rfl)) rfl rfl ?_)
 refine g_step rfl (s_val (v_move rfl) rfl rfl ?_)
 refine g_nil ?_
 refine g_next hK3 ?_
 refine g_block ?_
 first | refine g_keep [1, 5, 10, 11, 12] [] [] (keep_cons rfl (keep_cons rfl (keep_cons rfl (keep_cons rfl (keep_cons rfl keep_nil))))) lkeep_nil keep_nil rfl ?_ | refine g_keep [1, 5, 10, 11, 12] [] [] rfl rfl rfl rfl ?_
 refine g_loop (fun n env L B G => ∃ (k : Nat) (av : AV), k ≤ l.length ∧ n = l.length - k ∧ env = [(1, .fn (.func ff) caps), (5, av), (10, va), (11, .int .i64 (l.length : Int)), (12, .int .i64 (k : Int))] ∧ L = [] ∧ B = [] ∧ Own w0.heap.size 1 H av ((((l.take k).filter p).map f).map (AV.int .i64)) G) (l.length) ⟨0, .nil0, Nat.zero_le _, rfl, rfl, rfl, rfl, Own.nil ..⟩ (fun n env L B G hI => ?_)
 obtain ⟨k, av, hk, rfl, rfl, rfl, rfl, hown⟩ := hI
 have hva2 := view_sub hown.sub hva
 refine g_seq (fun K4 hK4 => ?_)
 refine g_region ?_
 refine g_step rfl (s_val (v_lss rfl rfl) rfl rfl ?_)
 refine g_nil ?_
 refine g_next hK4 ?_
 refine g_seq (fun K5 hK5 => ?_)
 refine g_cond rfl (fun hc13 => ?_) (fun hc13 => ?_)
 ·
  try simp only [NM] at hc13
  obtain ⟨x, hx⟩ := get_some (l := l) (k := k) (by omega)
  have hfl := List.length_filter_le p (l.take k)
  rw [List.length_take] at hfl
  refine g_skip ?_
  refine g_next hK5 ?_
  refine g_seq (fun K6 hK6 => ?_)
  refine g_block ?_
  refine g_seq (fun K7 hK7 => ?_)
  refine g_region ?_
  refine g_step rfl (s_val (v_indexAddr ty22 ty32 rfl rfl hva2 (by first | rfl | exact (rfl : (0 : Int) = ((0 : Nat) : Int)) | exact (Int.toNat_of_nonneg (by omega)).symm) (map_get hx) rfl) rfl rfl ?_)
  refine g_step rfl (s_val (by first | exact v_load_elt ty32 rfl rfl hva2 (map_get hx) rfl rfl | exact v_load_box_all ty32 rfl rfl (by assumption) rfl rfl | exact v_load_part (cs := [_, _, _, _, _, _, _]) ty32 rfl rfl hva2 (map_get hx) rfl rfl rfl | exact v_load_box_part (cs := [_, _, _, _, _, _, _]) ty32 rfl rfl (by assumption) rfl rfl rfl) rfl rfl ?_)
  refine g_step rfl (s_alloc (av := (.agg [(.int .i64 0), (.int .i64 0), (.int .i64 0), (.int .i64 0), (.int .i64 0), (.bool false), .nil0])) ty32 rfl rfl rfl rfl ?_)
  refine g_step rfl (s_store_all ty32 rfl rfl rfl rfl rfl rfl ?_)
  refine g_nil ?_
  refine g_next hK7 ?_
  refine g_seq (fun K8 hK8 => ?_)
  refine g_region ?_
  refine g_step rfl (s_val (v_move rfl) rfl rfl ?_)
  refine g_step rfl (s_val (by first | exact v_loadl_all ty32 rfl rfl rfl rfl rfl | exact v_loadl_part (cs := [_, _, _, _, _, _, _]) ty32 rfl rfl rfl rfl rfl rfl) rfl rfl ?_)
  refine g_step rfl (s_callp rfl rfl rfl (hcall x (mem_get hx) _ (AHeap.sub_trans hH hown.sub)) ?_)
  rintro _ rfl
  refine g_step rfl (s_val (v_move rfl) rfl rfl ?_)
  refine g_step rfl (s_val (v_extract rfl rfl) rfl rfl ?_)
  refine g_step rfl (s_val (v_extract rfl rfl) rfl rfl ?_)
  refine g_step rfl (s_val (v_assign rfl) rfl rfl ?_)
  refine g_step rfl (s_val (v_assign rfl) rfl rfl ?_)
  refine g_nil ?_
  refine g_next hK8 ?_
  refine g_seq (fun K9 hK9 => ?_)
  refine g_region ?_
  refine g_step rfl (s_val (v_move rfl) rfl rfl ?_)
  refine g_nil ?_
  refine g_next hK9 ?_
  refine g_cond rfl (fun hc22 => ?_) (fun hc22 => ?_)
  ·
   try simp only [NM] at hc22
   refine g_region ?_
   refine g_step rfl (s_val (v_move rfl) rfl rfl ?_)
   refine g_step rfl (s_val (v_move rfl) rfl rfl ?_)
   refine g_step rfl (s_lit ty27 ty3 rfl rfl rfl rfl rfl rfl rfl ?_)
   refine g_step rfl (s_append (l := ((((l.take k).filter p).map f).map (AV.int .i64))) (m := ([f x].map (AV.int .i64))) ty27 ty3 rfl rfl hown rfl rfl (by refine Even.map _ ?_ _; intro _; rfl) (by intro x hx; obtain ⟨_, _, rfl⟩ := List.mem_map.1 hx; rfl) rfl (by simp; omega) (by simp; omega) ?_)
   intro av26 G26 hown26
   refine g_step rfl (s_val (v_assign rfl) rfl rfl ?_)
   refine g_nil ?_
   refine g_block_normal ?_
   refine g_next hK6 ?_
   refine g_region ?_
   refine g_step rfl (s_val (v_add rfl rfl (by omega)) rfl rfl ?_)
   refine g_step rfl (s_val (v_move rfl) rfl rfl ?_)
   refine g_nil ?_
   first | refine g_keep [1, 5, 10, 11, 12] [] [] (keep_cons rfl (keep_cons rfl (keep_cons rfl (keep_cons rfl (keep_cons rfl keep_nil))))) lkeep_nil keep_nil rfl ?_ | refine g_keep [1, 5, 10, 11, 12] [] [] rfl rfl rfl rfl ?_
   first | exact g_round _ (by omega) ⟨k + 1, av26, by omega, rfl, rfl, rfl, rfl, by rw [filter_snoc hx, if_pos hc22, List.map_append, List.map_append]; exact hown26⟩ | exact g_round _ (by omega) ⟨k + 1, av, by omega, rfl, rfl, rfl, rfl, by rw [filter_snoc hx, if_neg (by rw [hc22]; simp), List.append_nil]; exact hown⟩
  ·
   try simp only [NM] at hc22
   refine g_skip ?_
   refine g_block_normal ?_
   refine g_next hK6 ?_
   refine g_region ?_
   refine g_step rfl (s_val (v_add rfl rfl (by omega)) rfl rfl ?_)
   refine g_step rfl (s_val (v_move rfl) rfl rfl ?_)
   refine g_nil ?_
   first | refine g_keep [1, 5, 10, 11, 12] [] [] (keep_cons rfl (keep_cons rfl (keep_cons rfl (keep_cons rfl (keep_cons rfl keep_nil))))) lkeep_nil keep_nil rfl ?_ | refine g_keep [1, 5, 10, 11, 12] [] [] rfl rfl rfl rfl ?_
   first | exact g_round _ (by omega) ⟨k + 1, av26, by omega, rfl, rfl, rfl, rfl, by rw [filter_snoc hx, if_pos hc22, List.map_append, List.map_append]; exact hown26⟩ | exact g_round _ (by omega) ⟨k + 1, av, by omega, rfl, rfl, rfl, rfl, by rw [filter_snoc hx, if_neg (by rw [hc22]; simp), List.append_nil]; exact hown⟩
 ·
  try simp only [NM] at hc13
  obtain rfl : k = l.length := by omega
  rw [List.take_length] at hown
  obtain ⟨e, he1, he2, he3⟩ := hown.effs
  refine g_exit ?_
  refine g_then_exit ?_
  refine g_then_exit ?_
  refine g_block_same ?_
  refine g_next hK2 ?_
  refine g_seq (fun K10 hK10 => ?_)
  refine g_region ?_
  refine g_step rfl (s_val (v_move rfl) rfl rfl ?_)
  refine g_step rfl (s_val (v_assign rfl) rfl rfl ?_)
  refine g_nil ?_
  refine g_next hK10 ?_
  refine g_ret ?_
  refine g_end1 (.inl rfl) Try.results53 (.tmp rfl) e (ASub.refl _) (by rw [he3]; exact AHeap.sub_refl _) (fun q hq => .inr (he2 q hq)) he1

theorem pickI_ok (l : List Rc) (ff : Nat) (caps : List AV) (f : Rc → Int) (p : Rc → Bool) (G : AHeap) (va : AV) (hva : va.view G = some (l.map encR)) (hl : l.length ≤ 1000000) (hcall : ∀ x ∈ l, ∀ H, G.sub H → PCalls Try.prog ff ([encR x] ++ caps) H (fun v => v = .tup [(AV.int .i64) (f x), .bool (p x)])) : PCalls Try.prog 53 [va, .fn (.func ff) caps] G (fun r => r = .imm (((l.filter p).map f).map (AV.int .i64))) := LCalls.freeze (pickIO_ok l ff caps f p G va hva hl hcall)
theorem pickMO_ok (l : List Rc) (ff : Nat) (caps : List AV) (f : Rc → Mv) (p : Rc → Bool) (G : AHeap) (va : AV) (hva : va.view G = some (l.map encR)) (hl : l.length ≤ 1000000) (hcall : ∀ x ∈ l, ∀ H, G.sub H → PCalls Try.prog ff ([encR x] ++ caps) H (fun v => v = .tup [encMv (f x), .bool (p x)])) : LCalls Try.prog 87 [va, .fn (.func ff) caps] G noD (fun n r effs => OwnR n 3 r (((l.filter p).map f).map encMv) effs) := by
 refine LCalls.intro 29 fi87 rfl Try.ntmps87 rfl (fun _ h => h.elim) (fun H hH w0 hw0 => ?_)
 have hva := view_sub hH hva
 refine g_seq (fun K0 hK0 => ?_)
 refine g_region ?_
 refine g_step rfl (s_val (v_assign rfl) rfl rfl ?_)
 refine g_nil ?_
 refine g_next hK0 ?_
 refine g_seq (fun K1 hK1 => ?_)
 refine g_region ?_
 refine g_step rfl (s_val (v_assign rfl) rfl rfl ?_)
 refine g_nil ?_
 refine g_next hK1 ?_
 refine g_seq (fun K2 hK2 => ?_)
 refine g_seq (fun K3 hK3 => ?_)
 refine g_region ?_
 refine g_step rfl (s_val (v_move rfl) rfl rfl ?_)
 refine g_step rfl (s_val (v_len ty22 rfl hva (by first | exact List.length_map .. | rfl)) rfl rfl ?_)
 refine g_step rfl (s_val (v_move rfl) rfl rfl ?_)
 refine g_nil ?_
 refine g_next hK3 ?_
 refine g_block ?_
 first | refine g_keep [1, 5, 10, 11, 12] [] [] (keep_cons rfl (keep_cons rfl (keep_cons rfl (keep_cons rfl (keep_cons rfl keep_nil))))) lkeep_nil keep_nil rfl ?_ | refine g_keep [1, 5, 10, 11, 12] [] [] rfl rfl rfl rfl ?_
 refine g_loop (fun n env L B G => ∃ (k : Nat) (av : AV), k ≤ l.length ∧ n = l.length - k ∧ env = [(1, .fn (.func ff) caps), (5, av), (10, va), (11, .int .i64 (l.length : Int)), (12, .int .i64 (k : Int))] ∧ L = [] ∧ B = [] ∧ Own w0.heap.size 3 H av ((((l.take k).filter p).map f).map encMv) G) (l.length) ⟨0, .nil0, Nat.zero_le _, rfl, rfl, rfl, rfl, Own.nil ..⟩ (fun n env L B G hI => ?_)
 obtain ⟨k, av, hk, rfl, rfl, rfl, rfl, hown⟩ := hI
 have hva2 := view_sub hown.sub hva
 refine g_seq (fun K4 hK4 => ?_)
 refine g_region ?_
 refine g_step rfl (s_val (v_lss rfl rfl) rfl rfl ?_)
 refine g_nil ?_
 refine g_next hK4 ?_
 refine g_seq (fun K5 hK5 => ?_)
 refine g_cond rfl (fun hc13 => ?_) (fun hc13 => ?_)
 ·
  try simp only [NM] at hc13
  obtain ⟨x, hx⟩ := get_some (l := l) (k := k) (by omega)
  have hfl := List.length_filter_le p (l.take k)
  rw [List.length_take] at hfl
  refine g_skip ?_
  refine g_next hK5 ?_
  refine g_seq (fun K6 hK6 => ?_)
  refine g_block ?_
  refine g_seq (fun K7 hK7 => ?_)
  refine g_region ?_
  refine g_step rfl (s_val (v_indexAddr ty22 ty32 rfl rfl hva2 (by first | rfl | exact (rfl : (0 : Int) = ((0 : Nat) : Int)) | exact (Int.toNat_of_nonneg (by omega)).symm) (map_get hx) rfl) rfl rfl ?_)
  refine g_step rfl (s_val (by first | exact v_load_elt ty32 rfl rfl hva2 (map_get hx) rfl rfl | exact v_load_box_all ty32 rfl rfl (by assumption) rfl rfl | exact v_load_part (cs := [_, _, _, _, _, _, _]) ty32 rfl rfl hva2 (map_get hx) rfl rfl rfl | exact v_load_box_part (cs := [_, _, _, _, _, _, _]) ty32 rfl rfl (by assumption) rfl rfl rfl) rfl rfl ?_)
  refine g_step rfl (s_alloc (av := (.agg [(.int .i64 0), (.int .i64 0), (.int .i64 0), (.int .i64 0), (.int .i64 0), (.bool false), .nil0])) ty32 rfl rfl rfl rfl ?_)
  refine g_step rfl (s_store_all ty32 rfl rfl rfl rfl rfl rfl ?_)
  refine g_nil ?_
  refine g_next hK7 ?_
  refine g_seq (fun K8 hK8 => ?_)
  refine g_region ?_
  refine g_step rfl (s_val (v_move rfl) rfl rfl ?_)
  refine g_step rfl (s_val (by first | exact v_loadl_all ty32 rfl rfl rfl rfl rfl | exact v_loadl_part (cs := [_, _, _, _, _, _, _]) ty32 rfl rfl rfl rfl rfl rfl) rfl rfl ?_)
  refine g_step rfl (s_callp rfl rfl rfl (hcall x (mem_get hx) _ (AHeap.sub_trans hH hown.sub)) ?_)
  rintro _ rfl
  refine g_step rfl (s_val (v_move rfl) rfl rfl ?_)
  refine g_step rfl (s_val (v_extract rfl rfl) rfl rfl ?_)
  refine g_step rfl (s_val (v_extract rfl rfl) rfl rfl ?_)
  refine g_step rfl (s_alloc (av := (.agg [(.int .i64 0), (.int .i64 0), (.int .i64 0)])) ty42 rfl rfl rfl rfl ?_)
  refine g_step rfl (s_store_all ty42 rfl rfl rfl rfl rfl rfl ?_)
  refine g_step rfl (s_val (v_assign rfl) rfl rfl ?_)
  refine g_nil ?_
  refine g_next hK8 ?_
  refine g_seq (fun K9 hK9 => ?_)
  refine g_region ?_
  refine g_step rfl (s_val (v_move rfl) rfl rfl ?_)
  refine g_nil ?_
  refine g_next hK9 ?_
  refine g_cond rfl (fun hc22 => ?_) (fun hc22 => ?_)
  ·
   try simp only [NM] at hc22
   refine g_region ?_
   refine g_step rfl (s_val (v_move rfl) rfl rfl ?_)
   refine g_step rfl (s_val (by first | exact v_loadl_all ty42 rfl rfl rfl rfl rfl | exact v_loadl_part (cs := [_, _, _]) ty42 rfl rfl rfl rfl rfl rfl) rfl rfl ?_)
   refine g_step rfl (s_lit ty35 ty42 rfl rfl rfl rfl rfl rfl rfl ?_)
   refine g_step rfl (s_append (l := ((((l.take k).filter p).map f).map encMv)) (m := ([f x].map encMv)) ty35 ty42 rfl rfl hown rfl rfl (by refine Even.map _ ?_ _; intro _; rfl) (by intro x hx; obtain ⟨_, _, rfl⟩ := List.mem_map.1 hx; rfl) rfl (by simp; omega) (by simp; omega) ?_)
   intro av26 G26 hown26
   refine g_step rfl (s_val (v_assign rfl) rfl rfl ?_)
   refine g_nil ?_
   refine g_block_normal ?_
   refine g_next hK6 ?_
   refine g_region ?_
   refine g_step rfl (s_val (v_add rfl rfl (by omega)) rfl rfl ?_)
   refine g_step rfl (s_val (v_move rfl) rfl rfl ?_)
   refine g_nil ?_
   first | refine g_keep [1, 5, 10, 11, 12] [] [] (keep_cons rfl (keep_cons rfl (keep_cons rfl (keep_cons rfl (keep_cons rfl keep_nil))))) lkeep_nil keep_nil rfl ?_ | refine g_keep [1, 5, 10, 11, 12] [] [] rfl rfl rfl rfl ?_
   first | exact g_round _ (by omega) ⟨k + 1, av26, by omega, rfl, rfl, rfl, rfl, by rw [filter_snoc hx, if_pos hc22, List.map_append, List.map_append]; exact hown26⟩ | exact g_round _ (by omega) ⟨k + 1, av, by omega, rfl, rfl, rfl, rfl, by rw [filter_snoc hx, if_neg (by rw [hc22]; simp), List.append_nil]; exact hown⟩
  ·
   try simp only [NM] at hc22
   refine g_skip ?_
   refine g_block_normal ?_
   refine g_next hK6 ?_
   refine g_region ?_
   refine g_step rfl (s_val (v_add rfl rfl (by omega)) rfl rfl ?_)
   refine g_step rfl (s_val (v_move rfl) rfl rfl ?_)
   refine g_nil ?_
   first | refine g_keep [1, 5, 10, 11, 12] [] [] (keep_cons rfl (keep_cons rfl (keep_cons rfl (keep_cons rfl (keep_cons rfl keep_nil))))) lkeep_nil keep_nil rfl ?_ | refine g_keep [1, 5, 10, 11, 12] [] [] rfl rfl rfl rfl ?_
   first | exact g_round _ (by omega) ⟨k + 1, av26, by omega, rfl, rfl, rfl, rfl, by rw [filter_snoc hx, if_pos hc22, List.map_append, List.map_append]; exact hown26⟩ | exact g_round _ (by omega) ⟨k + 1, av, by omega, rfl, rfl, rfl, rfl, by rw [filter_snoc hx, if_neg (by rw [hc22]; simp), List.append_nil]; exact hown⟩
 ·
  try simp only [NM] at hc13
  obtain rfl : k = l.length := by omega
  rw [List.take_length] at hown
  obtain ⟨e, he1, he2, he3⟩ := hown.effs
  refine g_exit ?_
  refine g_then_exit ?_
  refine g_then_exit ?_
  refine g_block_same ?_
  refine g_next hK2 ?_
  refine g_seq (fun K10 hK10 => ?_)
  refine g_region ?_
  refine g_step rfl (s_val (v_move rfl) rfl rfl ?_)
  refine g_step rfl (s_val (v_assign rfl) rfl rfl ?_)
  refine g_nil ?_
  refine g_next hK10 ?_
  refine g_ret ?_
  refine g_end1 (.inl rfl) Try.results87 (.tmp rfl) e (ASub.refl _) (by rw [he3]; exact AHeap.sub_refl _) (fun q hq => .inr (he2 q hq)) he1

theorem pickM_ok (l : List Rc) (ff : Nat) (caps : List AV) (f : Rc → Mv) (p : Rc → Bool) (G : AHeap) (va : AV) (hva : va.view G = some (l.map encR)) (hl : l.length ≤ 1000000) (hcall : ∀ x ∈ l, ∀ H, G.sub H → PCalls Try.prog ff ([encR x] ++ caps) H (fun v => v = .tup [encMv (f x), .bool (p x)])) : PCalls Try.prog 87 [va, .fn (.func ff) caps] G (fun r => r = .imm (((l.filter p).map f).map encMv)) := LCalls.freeze (pickMO_ok l ff caps f p G va hva hl hcall)
theorem pickSO_ok (l : List Mv) (ff : Nat) (caps : List AV) (f : Mv → Sp) (p : Mv → Bool) (G : AHeap) (va : AV) (hva : va.view G = some (l.map encMv)) (hl : l.length ≤ 1000000) (hcall : ∀ x ∈ l, ∀ H, G.sub H → PCalls Try.prog ff ([encMv x] ++ caps) H (fun v => v = .tup [encSp (f x), .bool (p x)])) : LCalls Try.prog 57 [va, .fn (.func ff) caps] G noD (fun n r effs => OwnR n 2 r (((l.filter p).map f).map encSp) effs) := by
 refine LCalls.intro 29 fi57 rfl Try.ntmps57 rfl (fun _ h => h.elim) (fun H hH w0 hw0 => ?_)
 have hva := view_sub hH hva
 refine g_seq (fun K0 hK0 => ?_)
 refine g_region ?_
 refine g_step rfl (s_val (v_assign rfl) rfl rfl ?_)
 refine g_nil ?_
 refine g_next hK0 ?_
 refine g_seq (fun K1 hK1 => ?_)
 refine g_region ?_
 refine g_step rfl (s_val (v_assign rfl) rfl rfl ?_)
 refine g_nil ?_
 refine g_next hK1 ?_
 refine g_seq (fun K2 hK2 => ?_)
 refine g_seq (fun K3 hK3 => ?_)
 refine g_region ?_
 refine g_step rfl (s_val (v_move rfl) rfl rfl ?_)
 refine g_step rfl (s_val (v_len ty35 rfl hva (by first | exact List.length_map .. | rfl)) rfl rfl ?_)
 refine g_step rfl (s_val (v_move rfl) rfl rfl ?_)
 refine g_nil ?_
 refine g_next hK3 ?_
 refine g_block ?_
 first | refine g_keep [1, 5, 10, 11, 12] [] [] (keep_cons rfl (keep_cons rfl (keep_cons rfl (keep_cons rfl (keep_cons rfl keep_nil))))) lkeep_nil keep_nil rfl ?_ | refine g_keep [1, 5, 10, 11, 12] [] [] rfl rfl rfl rfl ?_
 refine g_loop (fun n env L B G => ∃ (k : Nat) (av : AV), k ≤ l.length ∧ n = l.length - k ∧ env = [(1, .fn (.func ff) caps), (5, av), (10, va), (11, .int .i64 (l.length : Int)), (12, .int .i64 (k : Int))] ∧ L = [] ∧ B = [] ∧ Own w0.heap.size 2 H av ((((l.take k).filter p).map f).map encSp) G) (l.length) ⟨0, .nil0, Nat.zero_le _, rfl, rfl, rfl, rfl, Own.nil ..⟩ (fun n env L B G hI => ?_)
 obtain ⟨k, av, hk, rfl, rfl, rfl, rfl, hown⟩ := hI
 have hva2 := view_sub hown.sub hva
 refine g_seq (fun K4 hK4 => ?_)
 refine g_region ?_
 refine g_step rfl (s_val (v_lss rfl rfl) rfl rfl ?_)
 refine g_nil ?_
 refine g_next hK4 ?_
 refine g_seq (fun K5 hK5 => ?_)
 refine g_cond rfl (fun hc13 => ?_) (fun hc13 => ?_)
 ·
  try simp only [NM] at hc13
  obtain ⟨x, hx⟩ := get_some (l := l) (k := k) (by omega)
  have hfl := List.length_filter_le p (l.take k)
  rw [List.length_take] at hfl
  refine g_skip ?_
  refine g_next hK5 ?_
  refine g_seq (fun K6 hK6 => ?_)
  refine g_block ?_
  refine g_seq (fun K7 hK7 => ?_)
  refine g_region ?_
  refine g_step rfl (s_val (v_indexAddr ty35 ty42 rfl rfl hva2 (by first | rfl | exact (rfl : (0 : Int) = ((0 : Nat) : Int)) | exact (Int.toNat_of_nonneg (by omega)).symm) (map_get hx) rfl) rfl rfl ?_)
  refine g_step rfl (s_val (by first | exact v_load_elt ty42 rfl rfl hva2 (map_get hx) rfl rfl | exact v_load_box_all ty42 rfl rfl (by assumption) rfl rfl | exact v_load_part (cs := [_, _, _]) ty42 rfl rfl hva2 (map_get hx) rfl rfl rfl | exact v_load_box_part (cs := [_, _, _]) ty42 rfl rfl (by assumption) rfl rfl rfl) rfl rfl ?_)
  refine g_step rfl (s_alloc (av := (.agg [(.int .i64 0), (.int .i64 0), (.int .i64 0)])) ty42 rfl rfl rfl rfl ?_)
  refine g_step rfl (s_store_all ty42 rfl rfl rfl rfl rfl rfl ?_)
  refine g_nil ?_
  refine g_next hK7 ?_
  refine g_seq (fun K8 hK8 => ?_)
  refine g_region ?_
  refine g_step rfl (s_val (v_move rfl) rfl rfl ?_)
  refine g_step rfl (s_val (by first | exact v_loadl_all ty42 rfl rfl rfl rfl rfl | exact v_loadl_part (cs := [_, _, _]) ty42 rfl rfl rfl rfl rfl rfl) rfl rfl ?_)
  refine g_step rfl (s_callp rfl rfl rfl (hcall x (mem_get hx) _ (AHeap.sub_trans hH hown.sub)) ?_)
  rintro _ rfl
  refine g_step rfl (s_val (v_move rfl) rfl rfl ?_)
  refine g_step rfl (s_val (v_extract rfl rfl) rfl rfl ?_)
  refine g_step rfl (s_val (v_extract rfl rfl) rfl rfl ?_)
  refine g_step rfl (s_alloc (av := (.agg [(.int .i64 0), (.int .i64 0)])) ty24 rfl rfl rfl rfl ?_)
  refine g_step rfl (s_store_all ty24 rfl rfl rfl rfl rfl rfl ?_)
  refine g_step rfl (s_val (v_assign rfl) rfl rfl ?_)
  refine g_nil ?_
  refine g_next hK8 ?_
  refine g_seq (fun K9 hK9 => ?_)
  refine g_region ?_
  refine g_step rfl (s_val (v_move rfl) rfl rfl ?_)
  refine g_nil ?_
  refine g_next hK9 ?_
  refine g_cond rfl (fun hc22 => ?_) (fun hc22 => ?_)
  ·
   try simp only [NM] at hc22
   refine g_region ?_
   refine g_step rfl (s_val (v_move rfl) rfl rfl ?_)
   refine g_step rfl (s_val (by first | exact v_loadl_all ty24 rfl rfl rfl rfl rfl | exact v_loadl_part (cs := [_, _]) ty24 rfl rfl rfl rfl rfl rfl) rfl rfl ?_)
   refine g_step rfl (s_lit ty89 ty24 rfl rfl rfl rfl rfl rfl rfl ?_)
   refine g_step rfl (s_append (l := ((((l.take k).filter p).map f).map encSp)) (m := ([f x].map encSp)) ty89 ty24 rfl rfl hown rfl rfl (by refine Even.map _ ?_ _; intro _; rfl) (by intro x hx; obtain ⟨_, _, rfl⟩ := List.mem_map.1 hx; rfl) rfl (by simp; omega) (by simp; omega) ?_)
   intro av26 G26 hown26
   refine g_step rfl (s_val (v_assign rfl) rfl rfl ?_)
   refine g_nil ?_
   refine g_block_normal ?_
   refine g_next hK6 ?_
   refine g_region ?_
   refine g_step rfl (s_val (v_add rfl rfl (by omega)) rfl rfl ?_)
   refine g_step rfl (s_val (v_move rfl) rfl rfl ?_)
   refine g_nil ?_
   first | refine g_keep [1, 5, 10, 11, 12] [] [] (keep_cons rfl (keep_cons rfl (keep_cons rfl (keep_cons rfl (keep_cons rfl keep_nil))))) lkeep_nil keep_nil rfl ?_ | refine g_keep [1, 5, 10, 11, 12] [] [] rfl rfl rfl rfl ?_
   first | exact g_round _ (by omega) ⟨k + 1, av26, by omega, rfl, rfl, rfl, rfl, by rw [filter_snoc hx, if_pos hc22, List.map_append, List.map_append]; exact hown26⟩ | exact g_round _ (by omega) ⟨k + 1, av, by omega, rfl, rfl, rfl, rfl, by rw [filter_snoc hx, if_neg (by rw [hc22]; simp), List.append_nil]; exact hown⟩
  ·
   try simp only [NM] at hc22
   refine g_skip ?_
   refine g_block_normal ?_
   refine g_next hK6 ?_
   refine g_region ?_
   refine g_step rfl (s_val (v_add rfl rfl (by omega)) rfl rfl ?_)
   refine g_step rfl (s_val (v_move rfl) rfl rfl ?_)
   refine g_nil ?_
   first | refine g_keep [1, 5, 10, 11, 12] [] [] (keep_cons rfl (keep_cons rfl (keep_cons rfl (keep_cons rfl (keep_cons rfl keep_nil))))) lkeep_nil keep_nil rfl ?_ | refine g_keep [1, 5, 10, 11, 12] [] [] rfl rfl rfl rfl ?_
   first | exact g_round _ (by omega) ⟨k + 1, av26, by omega, rfl, rfl, rfl, rfl, by rw [filter_snoc hx, if_pos hc22, List.map_append, List.map_append]; exact hown26⟩ | exact g_round _ (by omega) ⟨k + 1, av, by omega, rfl, rfl, rfl, rfl, by rw [filter_snoc hx, if_neg (by rw [hc22]; simp), List.append_nil]; exact hown⟩
 ·
  try simp only [NM] at hc13
  obtain rfl : k = l.length := by omega
  rw [List.take_length] at hown
  obtain ⟨e, he1, he2, he3⟩ := hown.effs
  refine g_exit ?_
  refine g_then_exit ?_
  refine g_then_exit ?_
  refine g_block_same ?_
  refine g_next hK2 ?_
  refine g_seq (fun K10 hK10 => ?_)
  refine g_region ?_
  refine g_step rfl (s_val (v_move rfl) rfl rfl ?_)
  refine g_step rfl (s_val (v_assign rfl) rfl rfl ?_)
  refine g_nil ?_
  refine g_next hK10 ?_
  refine g_ret ?_
  refine g_end1 (.inl rfl) Try.results57 (.tmp rfl) e (ASub.refl _) (by rw [he3]; exact AHeap.sub_refl _) (fun q hq => .inr (he2 q hq)) he1

theorem pickS_ok (l : List Mv) (ff : Nat) (caps : List AV) (f : Mv → Sp) (p : Mv → Bool) (G : AHeap) (va : AV) (hva : va.view G = some (l.map encMv)) (hl : l.length ≤ 1000000) (hcall : ∀ x ∈ l, ∀ H, G.sub H → PCalls Try.prog ff ([encMv x] ++ caps) H (fun v => v = .tup [encSp (f x), .bool (p x)])) : PCalls Try.prog 57 [va, .fn (.func ff) caps] G (fun r => r = .imm (((l.filter p).map f).map encSp)) := LCalls.freeze (pickSO_ok l ff caps f p G va hva hl hcall)
theorem apart1_ok (bi bs : Nat) (id : Int) (s : Sp) (x : Rc) (G : AHeap) (hi : G bi = some (.box (.int .i64 id))) (hs : G bs = some (.box (encSp s))) : PCalls Try.prog 54 [encR x, .box bi 0, .box bs 0] G (fun v => v = .tup [.int .i64 x.id, .bool (apartP id s x)]) := by
 refine LCalls.intro 23 fi54 rfl Try.ntmps54 rfl (fun _ h => h.elim) (fun H hH w0 hw0 => ?_)
 have hi := hH _ _ hi
 have hs := hH _ _ hs
 refine g_seq (fun K0 hK0 => ?_)
 refine g_region ?_
 refine g_step rfl (s_box rfl rfl rfl rfl ?_)
 refine g_step rfl (s_val (v_assign rfl) rfl rfl ?_)
 refine g_step rfl (s_val (v_assign rfl) rfl rfl ?_)
 refine g_nil ?_
 refine g_next hK0 ?_
 refine g_seq (fun K1 hK1 => ?_)
 refine g_draw (n := 19) (fun j => !([] : List Nat).contains j) rfl rfl ?_
 refine m_takel 0 rfl rfl (by kernel_rfl) (by kernel_rfl) (by kernel_rfl) (fun _ _ _ _ h => h) (vl_fieldAddr ty32 fo32_0 ty3 rfl) rfl rfl ?_
 refine m_tk 1 true rfl rfl (by kernel_rfl) (v_loadl ty3 rfl rfl rfl rfl) rfl rfl ?_
 refine m_tk 2 true rfl rfl (by kernel_rfl) (by first | exact v_loadl_all ty32 rfl rfl rfl rfl rfl | exact v_loadl_part (cs := [_, _, _, _, _, _, _]) ty32 rfl rfl rfl rfl rfl rfl) rfl rfl ?_
 refine m_one 3 (by kernel_rfl) rfl rfl ?_
 refine sm_callp rfl rfl rfl (pcounts_ok _ _) ?_
 rintro _ rfl
 refine m_tk 4 false rfl rfl (by kernel_rfl) (v_move rfl) rfl rfl ?_
 refine m_split 10 rfl (fun hg10 => ?_) (fun hg10 => ?_)
 ·
  try simp only [NM] at hg10
  refine m_takel_yes (j := 4) (t := 10) 5 rfl rfl rfl rfl rfl (by kernel_rfl) (by kernel_rfl) (by kernel_rfl) (fun _ _ _ _ h => h) (vl_fieldAddr ty32 fo32_0 ty3 rfl) rfl rfl ?_
  refine m_take_yes (j := 4) (t := 10) 6 true rfl rfl rfl rfl rfl (by kernel_rfl) (by kernel_rfl) (by kernel_rfl) (fun _ _ _ _ h => h) (v_loadl ty3 rfl rfl rfl rfl) rfl rfl ?_
  refine m_take_yes (j := 4) (t := 10) 7 true rfl rfl rfl rfl rfl (by kernel_rfl) (by kernel_rfl) (by kernel_rfl) (fun _ _ _ _ h => h) (by first | exact v_load ty3 rfl rfl (by first | rfl | assumption) (by first | assumption | exact map_get (by assumption) | rfl) rfl | exact v_load_box ty3 rfl rfl (by assumption) rfl) rfl rfl ?_
  refine m_take_yes (j := 4) (t := 10) 8 false rfl rfl rfl rfl rfl (by kernel_rfl) (by kernel_rfl) (by kernel_rfl) (fun _ _ _ _ h => h) (v_neq rfl rfl) rfl rfl ?_
  refine m_tk 9 false rfl rfl (by kernel_rfl) (v_pick_t rfl rfl) rfl rfl ?_
  refine m_tk 10 false rfl rfl (by kernel_rfl) (v_move rfl) rfl rfl ?_
  refine m_split 16 rfl (fun hg16 => ?_) (fun hg16 => ?_)
  ·
   try simp only [NM] at hg16
   refine m_takel_yes (j := 10) (t := 16) 11 rfl rfl rfl rfl rfl (by kernel_rfl) (by kernel_rfl) (by kernel_rfl) (fun _ _ _ _ h => h) (vl_fieldAddr ty32 fo32_3 ty24 rfl) rfl rfl ?_
   refine m_take_yes (j := 10) (t := 16) 12 true rfl rfl rfl rfl rfl (by kernel_rfl) (by kernel_rfl) (by kernel_rfl) (fun _ _ _ _ h => h) (v_loadl_part (cs := [_, _]) ty24 rfl rfl rfl rfl rfl rfl) rfl rfl ?_
   refine m_take_yes (j := 10) (t := 16) 13 true rfl rfl rfl rfl rfl (by kernel_rfl) (by kernel_rfl) (by kernel_rfl) (fun _ _ _ _ h => h) (by first | exact v_load_elt ty24 rfl rfl (by first | rfl | assumption) (by first | assumption | exact map_get (by assumption) | rfl) rfl rfl | exact v_load_box_all ty24 rfl rfl (by assumption) rfl rfl | exact v_load_part (cs := [_, _]) ty24 rfl rfl (by first | rfl | assumption) (by first | assumption | exact map_get (by assumption) | rfl) rfl rfl rfl | exact v_load_box_part (cs := [_, _]) ty24 rfl rfl (by assumption) rfl rfl rfl) rfl rfl ?_
   refine m_one_yes (j := 10) (t := 16) 14 (by kernel_rfl) rfl rfl rfl rfl rfl ?_
   refine sm_callp rfl rfl rfl (spBest_ok x.sp s _) ?_
   rintro _ rfl
   refine m_take_yes (j := 10) (t := 16) 15 false rfl rfl rfl rfl rfl (by kernel_rfl) (by kernel_rfl) (by kernel_rfl) (fun _ _ _ _ h => h) (v_eql rfl rfl) rfl rfl ?_
   refine m_tk 16 false rfl rfl (by kernel_rfl) (v_pick_t rfl rfl) rfl rfl ?_
   refine m_tk 17 false rfl rfl (by kernel_rfl) (v_assign rfl) rfl rfl ?_
   refine m_tk 18 false rfl rfl (by kernel_rfl) (v_assign rfl) rfl rfl ?_
   refine m_done (by kernel_rfl) ?_
   refine g_next hK1 ?_
   refine g_ret ?_
   refine g_end2 (.inl rfl) Try.results54 (.tmp rfl) (.tmp rfl) [] (ASub.refl _) (AHeap.sub_refl _) (fun p hp => by cases hp) ⟨rfl, ?_⟩
   first | (simp_all [apartP]; done) | (simp_all [apartP]; rfl)
  ·
   try simp only [NM] at hg16
   refine m_take_no (j := 10) (t := 16) 11 rfl rfl rfl rfl rfl rfl (by kernel_rfl) (by kernel_rfl) (by kernel_rfl) (fun _ _ _ _ h => h) rfl rfl ?_
   refine m_take_no (j := 10) (t := 16) 12 rfl rfl rfl rfl rfl rfl (by kernel_rfl) (by kernel_rfl) (by kernel_rfl) (fun _ _ _ _ h => h) rfl rfl ?_
   refine m_take_no (j := 10) (t := 16) 13 rfl rfl rfl rfl rfl rfl (by kernel_rfl) (by kernel_rfl) (by kernel_rfl) (fun _ _ _ _ h => h) rfl rfl ?_
   refine m_take_no (j := 10) (t := 16) 14 rfl rfl rfl rfl rfl rfl (by kernel_rfl) (by kernel_rfl) (by kernel_rfl) (fun _ _ _ _ h => h) rfl rfl ?_
   refine m_take_no (j := 10) (t := 16) 15 rfl rfl rfl rfl rfl rfl (by kernel_rfl) (by kernel_rfl) (by kernel_rfl) (fun _ _ _ _ h => h) rfl rfl ?_
   refine m_tk 16 false rfl rfl (by kernel_rfl) (v_pick_f rfl rfl) rfl rfl ?_
   refine m_tk 17 false rfl rfl (by kernel_rfl) (v_assign rfl) rfl rfl ?_
   refine m_tk 18 false rfl rfl (by kernel_rfl) (v_assign rfl) rfl rfl ?_
   refine m_done (by kernel_rfl) ?_
   refine g_next hK1 ?_
   refine g_ret ?_
   refine g_end2 (.inl rfl) Try.results54 (.tmp rfl) (.tmp rfl) [] (ASub.refl _) (AHeap.sub_refl _) (fun p hp => by cases hp) ⟨rfl, ?_⟩
   first | (simp_all [apartP]; done) | (simp_all [apartP]; rfl)
 ·
  try simp only [NM] at hg10
  refine m_take_no (j := 4) (t := 10) 5 rfl rfl rfl rfl rfl rfl (by kernel_rfl) (by kernel_rfl) (by kernel_rfl) (fun _ _ _ _ h => h) rfl rfl ?_
  refine m_take_no (j := 4) (t := 10) 6 rfl rfl rfl rfl rfl rfl (by kernel_rfl) (by kernel_rfl) (by kernel_rfl) (fun _ _ _ _ h => h) rfl rfl ?_
  refine m_take_no (j := 4) (t := 10) 7 rfl rfl rfl rfl rfl rfl (by kernel_rfl) (by kernel_rfl) (by kernel_rfl) (fun _ _ _ _ h => h) rfl rfl ?_
  refine m_take_no (j := 4) (t := 10) 8 rfl rfl rfl rfl rfl rfl (by kernel_rfl) (by kernel_rfl) (by kernel_rfl) (fun _ _ _ _ h => h) rfl rfl ?_
  refine m_tk 9 false rfl rfl (by kernel_rfl) (v_pick_f rfl rfl) rfl rfl ?_
  refine m_tk 10 false rfl rfl (by kernel_rfl) (v_move rfl) rfl rfl ?_
  refine m_take_no (j := 10) (t := 16) 11 rfl rfl rfl rfl rfl rfl (by kernel_rfl) (by kernel_rfl) (by kernel_rfl) (fun _ _ _ _ h => h) rfl rfl ?_
  refine m_take_no (j := 10) (t := 16) 12 rfl rfl rfl rfl rfl rfl (by kernel_rfl) (by kernel_rfl) (by kernel_rfl) (fun _ _ _ _ h => h) rfl rfl ?_
  refine m_take_no (j := 10) (t := 16) 13 rfl rfl rfl rfl rfl rfl (by kernel_rfl) (by kernel_rfl) (by kernel_rfl) (fun _ _ _ _ h => h) rfl rfl ?_
  refine m_take_no (j := 10) (t := 16) 14 rfl rfl rfl rfl rfl rfl (by kernel_rfl) (by kernel_rfl) (by kernel_rfl) (fun _ _ _ _ h => h) rfl rfl ?_
  refine m_take_no (j := 10) (t := 16) 15 rfl rfl rfl rfl rfl rfl (by kernel_rfl) (by kernel_rfl) (by kernel_rfl) (fun _ _ _ _ h => h) rfl rfl ?_
  refine m_tk 16 false rfl rfl (by kernel_rfl) (v_pick_f rfl rfl) rfl rfl ?_
  refine m_tk 17 false rfl rfl (by kernel_rfl) (v_assign rfl) rfl rfl ?_
  refine m_tk 18 false rfl rfl (by kernel_rfl) (v_assign rfl) rfl rfl ?_
  refine m_done (by kernel_rfl) ?_
  refine g_next hK1 ?_
  refine g_ret ?_
  refine g_end2 (.inl rfl) Try.results54 (.tmp rfl) (.tmp rfl) [] (ASub.refl _) (AHeap.sub_refl _) (fun p hp => by cases hp) ⟨rfl, ?_⟩
  first | (simp_all [apartP]; done) | (simp_all [apartP]; rfl)

theorem apart_ok (l : List Rc) (id : Int) (s : Sp) (G : AHeap) (hl : l.length ≤ 1000000) : PCalls Try.prog 16 [encRs l, .int .i64 id, encSp s] G (fun v => v = .imm ((apartL l id s).map (.int .i64))) := by
 refine LCalls.intro 10 fi16 rfl Try.ntmps16 rfl (fun _ h => h.elim) (fun H hH w0 hw0 => ?_)
 refine g_seq (fun K0 hK0 => ?_)
 refine g_region ?_
 refine g_step rfl (s_box rfl rfl rfl rfl ?_)
 refine g_step rfl (s_box rfl rfl rfl rfl ?_)
 refine g_step rfl (s_val (v_assign rfl) rfl rfl ?_)
 refine g_nil ?_
 refine g_next hK0 ?_
 refine g_seq (fun K1 hK1 => ?_)
 refine g_region ?_
 refine g_step rfl (s_val (v_move rfl) rfl rfl ?_)
 refine g_expose 4 rfl rfl (fun r4 hr4 hw4 => ?_)
 refine g_expose 5 rfl rfl (fun r5 hr5 hw5 => ?_)
 refine g_step rfl (s_val (v_makeFunc rfl) rfl rfl ?_)
 refine g_step rfl (s_callp rfl rfl rfl (pickI_ok l 54 [.box r4 0, .box r5 0] (·.id) (apartP id s) _ _ rfl hl (fun x hx H' h' => apart1_ok r4 r5 id s x H' (h' _ _ (by rw [AHeap.get_set_ne _ _ (fun e => by subst e; rw [AHeap.get_set] at hr5; cases hr5)]; exact AHeap.get_set _ _ _)) (h' _ _ (AHeap.get_set _ _ _)))) ?_)
 rintro _ rfl
 refine g_step rfl (s_val (v_assign rfl) rfl rfl ?_)
 refine g_nil ?_
 refine g_next hK1 ?_
 refine g_ret ?_
 refine g_end1 (.inl rfl) Try.results16 (.tmp rfl) [] (ASub.refl _) (AHeap.sub_set (AHeap.sub_set (AHeap.sub_refl _) hr4) hr5) (fun p hp => by cases hp) ⟨rfl, ?_⟩
 rfl

theorem members1_ok (x : Rc) (G : AHeap) : PCalls Try.prog 88 [encR x] G (fun v => v = .tup [encMv (toMv x), .bool (cnt x)]) := by
 refine LCalls.intro 11 fi88 rfl Try.ntmps88 rfl (fun _ h => h.elim) (fun H hH w0 hw0 => ?_)
 refine g_seq (fun K0 hK0 => ?_)
 refine g_region ?_
 refine g_step rfl (s_box rfl rfl rfl rfl ?_)
 refine g_step rfl (s_alloc (av := (.agg [(.int .i64 0), (.int .i64 0), (.int .i64 0)])) ty42 rfl rfl rfl rfl ?_)
 refine g_step rfl (s_val (v_assign rfl) rfl rfl ?_)
 refine g_nil ?_
 refine g_next hK0 ?_
 refine g_seq (fun K1 hK1 => ?_)
 refine g_draw (n := 9) (fun j => !([7] : List Nat).contains j) rfl rfl ?_
 refine m_takel 0 rfl rfl (by kernel_rfl) (by kernel_rfl) (by kernel_rfl) (fun _ _ _ _ h => h) (vl_fieldAddr ty32 fo32_0 ty3 rfl) rfl rfl ?_
 refine m_tk 1 true rfl rfl (by kernel_rfl) (v_loadl ty3 rfl rfl rfl rfl) rfl rfl ?_
 refine m_takel 2 rfl rfl (by kernel_rfl) (by kernel_rfl) (by kernel_rfl) (fun _ _ _ _ h => h) (vl_fieldAddr ty32 fo32_3 ty24 rfl) rfl rfl ?_
 refine m_tk 3 true rfl rfl (by kernel_rfl) (v_loadl_part (cs := [_, _]) ty24 rfl rfl rfl rfl rfl rfl) rfl rfl ?_
 refine m_tk 4 false rfl rfl (by kernel_rfl) (v_sub (b := (encMv (toMv x))) (v_build (vs := [(0, _), (1, _)]) (zs := [(.int .i64 0), (.int .i64 0), (.int .i64 0)]) (cells := [_, _, _]) ty42 pl42 rfl rfl rfl) (ASub.of_wk rfl)) rfl rfl ?_
 refine m_tk 5 true rfl rfl (by kernel_rfl) (by first | exact v_loadl_all ty32 rfl rfl rfl rfl rfl | exact v_loadl_part (cs := [_, _, _, _, _, _, _]) ty32 rfl rfl rfl rfl rfl rfl) rfl rfl ?_
 refine m_one 6 (by kernel_rfl) rfl rfl ?_
 refine sm_callp rfl rfl rfl (pcounts_ok _ _) ?_
 rintro _ rfl
 refine m_one 7 (by kernel_rfl) rfl rfl ?_
 refine sm_any rfl (s_store_all ty42 rfl rfl rfl rfl rfl rfl ?_)
 refine m_tk 8 false rfl rfl (by kernel_rfl) (v_assign rfl) rfl rfl ?_
 refine m_done (by kernel_rfl) ?_
 refine g_next hK1 ?_
 refine g_ret ?_
 refine g_end2 (.inl rfl) Try.results88 (.agg ty42 rfl rfl rfl rfl rfl) (.tmp rfl) [] (ASub.refl _) (AHeap.sub_refl _) (fun p hp => by cases hp) ⟨rfl, ?_⟩
 rfl

theorem membersO_ok (l : List Rc) (G : AHeap) (hl : l.length ≤ 1000000) : LCalls Try.prog 58 [encRs l] G noD (fun n r effs => OwnR n 3 r ((membs l).map encMv) effs) := by
 refine LCalls.intro 5 fi58 rfl Try.ntmps58 rfl (fun _ h => h.elim) (fun H hH w0 hw0 => ?_)
 refine g_seq (fun K0 hK0 => ?_)
 refine g_region ?_
 refine g_step rfl (s_val (v_assign rfl) rfl rfl ?_)
 refine g_nil ?_
 refine g_next hK0 ?_
 refine g_seq (fun K1 hK1 => ?_)
 refine g_region ?_
 refine g_step rfl (s_val (v_move rfl) rfl rfl ?_)
 refine g_step rfl (s_call rfl rfl rfl (pickMO_ok l 88 [] toMv cnt _ _ rfl hl (fun x hx H' h' => members1_ok x H')) (fun _ h => h.elim) ?_)
 rintro n1 av effs1 hn1 hdom1 hR1 hok1
 have hown := hR1.own (n0 := w0.heap.size) hn1 hdom1
 obtain ⟨e, he1, he2, he3⟩ := hown.effs
 refine g_step rfl (s_val (v_assign rfl) rfl rfl ?_)
 refine g_nil ?_
 refine g_next hK1 ?_
 refine g_ret ?_
 refine g_end1 (.inl rfl) Try.results58 (.tmp rfl) e (ASub.refl _) (by rw [he3]; exact AHeap.sub_refl _) (fun q hq => .inr (he2 q hq)) he1

theorem members_ok (l : List Rc) (G : AHeap) (hl : l.length ≤ 1000000) : PCalls Try.prog 58 [encRs l] G (fun r => r = .imm ((membs l).map encMv)) := LCalls.freeze (membersO_ok l G hl)
theorem speak1_ok (x : Mv) (G : AHeap) : PCalls Try.prog 59 [encMv x] G (fun v => v = .tup [encSp x.sp, .bool true]) := by
 refine LCalls.intro 6 fi59 rfl Try.ntmps59 rfl (fun _ h => h.elim) (fun H hH w0 hw0 => ?_)
 refine g_seq (fun K0 hK0 => ?_)
 refine g_region ?_
 refine g_step rfl (s_box rfl rfl rfl rfl ?_)
 refine g_step rfl (s_alloc (av := (.agg [(.int .i64 0), (.int .i64 0)])) ty24 rfl rfl rfl rfl ?_)
 refine g_step rfl (s_val (v_assign rfl) rfl rfl ?_)
 refine g_nil ?_
 refine g_next hK0 ?_
 refine g_seq (fun K1 hK1 => ?_)
 refine g_region ?_
 refine g_step rfl (s_fieldAddr ty42 fo42_1 ty24 rfl rfl ?_)
 refine g_step rfl (s_val (v_loadl_part (cs := [_, _]) ty24 rfl rfl rfl rfl rfl rfl) rfl rfl ?_)
 refine g_step rfl (s_store_all ty24 rfl rfl rfl rfl rfl rfl ?_)
 refine g_step rfl (s_val (v_assign rfl) rfl rfl ?_)
 refine g_nil ?_
 refine g_next hK1 ?_
 refine g_ret ?_
 refine g_end2 (.inl rfl) Try.results59 (.agg ty24 rfl rfl rfl rfl rfl) (.tmp rfl) [] (ASub.refl _) (AHeap.sub_refl _) (fun p hp => by cases hp) ⟨rfl, ?_⟩
 rfl

theorem speak_ok (l : List Rc) (G : AHeap) (hl : l.length ≤ 1000000) : PCalls Try.prog 19 [encRs l] G (fun v => v = .bool (speakB l)) := by
 refine LCalls.intro 13 fi19 rfl Try.ntmps19 rfl (fun _ h => h.elim) (fun H hH w0 hw0 => ?_)
 refine g_seq (fun K0 hK0 => ?_)
 refine g_region ?_
 refine g_step rfl (s_val (v_assign rfl) rfl rfl ?_)
 refine g_nil ?_
 refine g_next hK0 ?_
 refine g_seq (fun K1 hK1 => ?_)
 refine g_region ?_
 have hml : (membs l).length ≤ l.length := by rw [membs, List.length_map]; exact List.length_filter_le _ _
 have hfl : ((membs l).filter (fun _ => true)).map (·.sp) = spans l := by rw [spans, List.filter_eq_self.2 (fun _ _ => rfl)]
 refine g_step rfl (s_val (v_move rfl) rfl rfl ?_)
 refine g_step rfl (s_callp rfl rfl rfl (members_ok _ _ (by omega)) ?_)
 rintro _ rfl
 refine g_step rfl (s_callp rfl rfl rfl (pickS_ok (membs l) 59 [] (·.sp) (fun _ => true) _ _ rfl (by omega) (fun x hx H' h' => speak1_ok x H')) ?_)
 rintro _ rfl
 rw [hfl]
 refine g_step rfl (s_callp rfl rfl rfl (spCommon_ok (spans l) _ (by rw [spans, List.length_map]; omega)) ?_)
 rintro _ rfl
 refine g_step rfl (s_val (v_move rfl) rfl rfl ?_)
 refine g_step rfl (s_val (v_extract rfl rfl) rfl rfl ?_)
 refine g_step rfl (s_val (v_extract rfl rfl) rfl rfl ?_)
 refine g_step rfl (s_alloc (av := (.agg [(.int .i64 0), (.int .i64 0)])) ty24 rfl rfl rfl rfl ?_)
 refine g_step rfl (s_store_all ty24 rfl rfl rfl rfl rfl rfl ?_)
 refine g_step rfl (s_val (v_assign rfl) rfl rfl ?_)
 refine g_nil ?_
 refine g_next hK1 ?_
 refine g_seq (fun K2 hK2 => ?_)
 refine g_region ?_
 refine g_step rfl (s_val (v_move rfl) rfl rfl ?_)
 refine g_step rfl (s_val (v_assign rfl) rfl rfl ?_)
 refine g_nil ?_
 refine g_next hK2 ?_
 refine g_ret ?_
 refine g_end1 (.inl rfl) Try.results19 (.tmp rfl) [] (ASub.refl _) (AHeap.sub_refl _) (fun p hp => by cases hp) ⟨rfl, ?_⟩
 rfl

theorem pmay_ok (l : List Rc) (t : Sp) (w : Int) (G : AHeap) (hl : l.length ≤ 100000) (hs : ∀ x ∈ l, Small x.bag) : PCalls Try.prog 60 [encRs l, encSp t, .int .i64 w] G (fun v => v = .int .i64 (mayE l t w)) := by
 refine LCalls.intro 66 fi60 rfl Try.ntmps60 rfl (fun _ h => h.elim) (fun H hH w0 hw0 => ?_)
 refine g_seq (fun K0 hK0 => ?_)
 refine g_region ?_
 refine g_step rfl (s_box rfl rfl rfl rfl ?_)
 refine g_step rfl (s_val (v_assign rfl) rfl rfl ?_)
 refine g_nil ?_
 refine g_next hK0 ?_
 refine g_seq (fun K1 hK1 => ?_)
 refine g_seq (fun K2 hK2 => ?_)
 refine g_region ?_
 refine g_step rfl (s_val (v_move rfl) rfl rfl ?_)
 refine g_step rfl (s_callp rfl rfl rfl (sorted_ok l _ (by omega) hs) ?_)
 rintro _ rfl
 refine g_step rfl (s_val (v_not rfl) rfl rfl ?_)
 refine g_step rfl (s_val (v_move rfl) rfl rfl ?_)
 refine g_split 12 rfl (fun hg12 => ?_) (fun hg12 => ?_)
 ·
  try simp only [NM] at hg12
  refine g_step_no (j := 3) (t := 12) rfl rfl rfl rfl rfl rfl rfl ?_
  refine g_step_no (j := 3) (t := 12) rfl rfl rfl rfl rfl rfl rfl ?_
  refine g_step_no (j := 3) (t := 12) rfl rfl rfl rfl rfl rfl rfl ?_
  refine g_step rfl (s_val (v_pick_t rfl rfl) rfl rfl ?_)
  refine g_nil ?_
  refine g_next hK2 ?_
  refine g_cond rfl (fun _ => ?_) (fun h => by cases h)
  refine g_seq (fun K3 hK3 => ?_)
  refine g_region ?_
  refine g_step rfl (s_val (v_assign rfl) rfl rfl ?_)
  refine g_nil ?_
  refine g_next hK3 ?_
  refine g_ret ?_
  refine g_then_ret ?_
  refine g_end1 (.inl rfl) Try.results60 (.tmp rfl) [] (ASub.refl _) (AHeap.sub_refl _) (fun p hp => by cases hp) ⟨rfl, ?_⟩
  first | (rw [mayE, if_pos (by simp_all)]; done) | (rw [mayE, if_pos (by simp_all)]; rfl)
 ·
  try simp only [NM] at hg12
  refine g_step_yes (j := 3) (t := 12) rfl rfl rfl rfl (s_val (by first | exact v_loadl_all ty24 rfl rfl rfl rfl rfl | exact v_loadl_part (cs := [_, _]) ty24 rfl rfl rfl rfl rfl rfl) rfl rfl ?_)
  refine g_step_yes (j := 3) (t := 12) rfl rfl rfl rfl (s_callp rfl rfl rfl (spValid_ok t _) ?_)
  rintro _ rfl
  refine g_step_yes (j := 3) (t := 12) rfl rfl rfl rfl (s_val (v_not rfl) rfl rfl ?_)
  refine g_step rfl (s_val (v_pick_f rfl rfl) rfl rfl ?_)
  refine g_nil ?_
  refine g_next hK2 ?_
  refine g_cond rfl (fun hc16 => ?_) (fun hc16 => ?_)
  ·
   try simp only [NM] at hc16
   refine g_seq (fun K4 hK4 => ?_)
   refine g_region ?_
   refine g_step rfl (s_val (v_assign rfl) rfl rfl ?_)
   refine g_nil ?_
   refine g_next hK4 ?_
   refine g_ret ?_
   refine g_then_ret ?_
   refine g_end1 (.inl rfl) Try.results60 (.tmp rfl) [] (ASub.refl _) (AHeap.sub_refl _) (fun p hp => by cases hp) ⟨rfl, ?_⟩
   first | (rw [mayE, if_pos (by simp_all)]; done) | (rw [mayE, if_pos (by simp_all)]; rfl)
  ·
   try simp only [NM] at hc16
   refine g_skip ?_
   refine g_next hK1 ?_
   refine g_seq (fun K5 hK5 => ?_)
   refine g_seq (fun K6 hK6 => ?_)
   refine g_region ?_
   have hA : ¬ ((!srt l || !spValid t) = true) := by simp_all
   have hv : spValid t = true := by simp_all
   have hv2 : 1 ≤ t.lo ∧ t.lo ≤ t.hi ∧ t.hi ≤ 3 := by simpa [spValid] using hv
   refine g_step rfl (s_val (v_move rfl) rfl rfl ?_)
   refine g_step rfl (s_val (v_lss rfl rfl) rfl rfl ?_)
   refine g_step rfl (s_val (v_move rfl) rfl rfl ?_)
   refine g_split 19 rfl (fun hg19 => ?_) (fun hg19 => ?_)
   ·
    try simp only [NM] at hg19
    refine g_step_no (j := 2) (t := 19) rfl rfl rfl rfl rfl rfl rfl ?_
    refine g_step_no (j := 2) (t := 19) rfl rfl rfl rfl rfl rfl rfl ?_
    refine g_step rfl (s_val (v_pick_t rfl rfl) rfl rfl ?_)
    refine g_step rfl (s_val (v_move rfl) rfl rfl ?_)
    refine g_step_no (j := 6) (t := 23) rfl rfl rfl rfl rfl rfl rfl ?_
    refine g_step_no (j := 6) (t := 23) rfl rfl rfl rfl rfl rfl rfl ?_
    refine g_step_no (j := 6) (t := 23) rfl rfl rfl rfl rfl rfl rfl ?_
    refine g_step_no (j := 6) (t := 23) rfl rfl rfl rfl rfl rfl rfl ?_
    refine g_step_no (j := 6) (t := 23) rfl rfl rfl rfl rfl rfl rfl ?_
    refine g_step_no (j := 6) (t := 23) rfl rfl rfl rfl rfl rfl rfl ?_
    refine g_step_no (j := 6) (t := 23) rfl rfl rfl rfl rfl rfl rfl ?_
    refine g_step rfl (s_val (v_pick_t rfl rfl) rfl rfl ?_)
    refine g_nil ?_
    refine g_next hK6 ?_
    first | refine g_keep [0, 2, 31] [4] [4] (keep_cons rfl (keep_cons rfl (keep_cons rfl keep_nil))) (lkeep_cons rfl lkeep_nil) (keep_cons rfl keep_nil) rfl ?_ | refine g_keep [0, 2, 31] [4] [4] rfl rfl rfl rfl ?_
    refine g_cond rfl (fun _ => ?_) (fun h => by cases h)
    refine g_seq (fun K7 hK7 => ?_)
    refine g_region ?_
    refine g_step rfl (s_val (v_assign rfl) rfl rfl ?_)
    refine g_nil ?_
    refine g_next hK7 ?_
    refine g_ret ?_
    refine g_then_ret ?_
    refine g_end1 (.inl rfl) Try.results60 (.tmp rfl) [] (ASub.refl _) (AHeap.sub_refl _) (fun p hp => by cases hp) ⟨rfl, ?_⟩
    first | (rw [mayE, if_neg hA, if_pos (by omega)]; done) | (rw [mayE, if_neg hA, if_pos (by omega)]; rfl)
   ·
    try simp only [NM] at hg19
    refine g_step_yes (j := 2) (t := 19) rfl rfl rfl rfl (s_val (v_move rfl) rfl rfl ?_)
    refine g_step_yes (j := 2) (t := 19) rfl rfl rfl rfl (s_val (v_gtr rfl rfl) rfl rfl ?_)
    refine g_step rfl (s_val (v_pick_f rfl rfl) rfl rfl ?_)
    refine g_step rfl (s_val (v_move rfl) rfl rfl ?_)
    refine g_split 23 rfl (fun hg23 => ?_) (fun hg23 => ?_)
    ·
     try simp only [NM] at hg23
     refine g_step_no (j := 6) (t := 23) rfl rfl rfl rfl rfl rfl rfl ?_
     refine g_step_no (j := 6) (t := 23) rfl rfl rfl rfl rfl rfl rfl ?_
     refine g_step_no (j := 6) (t := 23) rfl rfl rfl rfl rfl rfl rfl ?_
     refine g_step_no (j := 6) (t := 23) rfl rfl rfl rfl rfl rfl rfl ?_
     refine g_step_no (j := 6) (t := 23) rfl rfl rfl rfl rfl rfl rfl ?_
     refine g_step_no (j := 6) (t := 23) rfl rfl rfl rfl rfl rfl rfl ?_
     refine g_step_no (j := 6) (t := 23) rfl rfl rfl rfl rfl rfl rfl ?_
     refine g_step rfl (s_val (v_pick_t rfl rfl) rfl rfl ?_)
     refine g_nil ?_
     refine g_next hK6 ?_
     first | refine g_keep [0, 2, 31] [4] [4] (keep_cons rfl (keep_cons rfl (keep_cons rfl keep_nil))) (lkeep_cons rfl lkeep_nil) (keep_cons rfl keep_nil) rfl ?_ | refine g_keep [0, 2, 31] [4] [4] rfl rfl rfl rfl ?_
     refine g_cond rfl (fun _ => ?_) (fun h => by cases h)
     refine g_seq (fun K8 hK8 => ?_)
     refine g_region ?_
     refine g_step rfl (s_val (v_assign rfl) rfl rfl ?_)
     refine g_nil ?_
     refine g_next hK8 ?_
     refine g_ret ?_
     refine g_then_ret ?_
     refine g_end1 (.inl rfl) Try.results60 (.tmp rfl) [] (ASub.refl _) (AHeap.sub_refl _) (fun p hp => by cases hp) ⟨rfl, ?_⟩
     first | (rw [mayE, if_neg hA, if_pos (by omega)]; done) | (rw [mayE, if_neg hA, if_pos (by omega)]; rfl)
    ·
     try simp only [NM] at hg23
     refine g_step_yes (j := 6) (t := 23) rfl rfl rfl rfl (s_fieldAddr ty24 fo24_1 ty3 rfl rfl ?_)
     refine g_step_yes (j := 6) (t := 23) rfl rfl rfl rfl (s_val (v_loadl ty3 rfl rfl rfl rfl) rfl rfl ?_)
     refine g_step_yes (j := 6) (t := 23) rfl rfl rfl rfl (s_fieldAddr ty24 fo24_0 ty3 rfl rfl ?_)
     refine g_step_yes (j := 6) (t := 23) rfl rfl rfl rfl (s_val (v_loadl ty3 rfl rfl rfl rfl) rfl rfl ?_)
     refine g_step_yes (j := 6) (t := 23) rfl rfl rfl rfl (s_val (v_sub_ rfl rfl (by omega)) rfl rfl ?_)
     refine g_step_yes (j := 6) (t := 23) rfl rfl rfl rfl (s_val (v_move rfl) rfl rfl ?_)
     refine g_step_yes (j := 6) (t := 23) rfl rfl rfl rfl (s_val (v_geq rfl rfl) rfl rfl ?_)
     refine g_step rfl (s_val (v_pick_f rfl rfl) rfl rfl ?_)
     refine g_nil ?_
     refine g_next hK6 ?_
     first | refine g_keep [0, 2, 31] [4] [4] (keep_cons rfl (keep_cons rfl (keep_cons rfl keep_nil))) (lkeep_cons rfl lkeep_nil) (keep_cons rfl keep_nil) rfl ?_ | refine g_keep [0, 2, 31] [4] [4] rfl rfl rfl rfl ?_
     refine g_cond rfl (fun hc31 => ?_) (fun hc31 => ?_)
     ·
      try simp only [NM] at hc31
      refine g_seq (fun K9 hK9 => ?_)
      refine g_region ?_
      refine g_step rfl (s_val (v_assign rfl) rfl rfl ?_)
      refine g_nil ?_
      refine g_next hK9 ?_
      refine g_ret ?_
      refine g_then_ret ?_
      refine g_end1 (.inl rfl) Try.results60 (.tmp rfl) [] (ASub.refl _) (AHeap.sub_refl _) (fun p hp => by cases hp) ⟨rfl, ?_⟩
      first | (rw [mayE, if_neg hA, if_pos (by omega)]; done) | (rw [mayE, if_neg hA, if_pos (by omega)]; rfl)
     ·
      try simp only [NM] at hc31
      refine g_skip ?_
      refine g_next hK5 ?_
      refine g_seq (fun K10 hK10 => ?_)
      refine g_seq (fun K11 hK11 => ?_)
      refine g_region ?_
      have hB : ¬ (w < 1 ∨ 3 < w ∨ w ≤ t.hi - t.lo) := by omega
      refine g_step rfl (s_val (v_move rfl) rfl rfl ?_)
      refine g_step rfl (s_callp rfl rfl rfl (speak_ok _ _ (by omega)) ?_)
      rintro _ rfl
      refine g_step rfl (s_val (v_not rfl) rfl rfl ?_)
      refine g_nil ?_
      refine g_next hK11 ?_
      refine g_cond rfl (fun hc34 => ?_) (fun hc34 => ?_)
      ·
       try simp only [NM] at hc34
       refine g_seq (fun K12 hK12 => ?_)
       refine g_region ?_
       refine g_step rfl (s_val (v_assign rfl) rfl rfl ?_)
       refine g_nil ?_
       refine g_next hK12 ?_
       refine g_ret ?_
       refine g_then_ret ?_
       refine g_end1 (.inl rfl) Try.results60 (.tmp rfl) [] (ASub.refl _) (AHeap.sub_refl _) (fun p hp => by cases hp) ⟨rfl, ?_⟩
       first | (rw [mayE, if_neg hA, if_neg hB, if_pos hc34]; done) | (rw [mayE, if_neg hA, if_neg hB, if_pos hc34]; rfl)
      ·
       try simp only [NM] at hc34
       refine g_skip ?_
       refine g_next hK10 ?_
       refine g_seq (fun K13 hK13 => ?_)
       refine g_seq (fun K14 hK14 => ?_)
       refine g_region ?_
       have hC : ¬ (speakB l = false) := by rw [hc34]; simp
       have hml : (membs l).length ≤ l.length := by rw [membs, List.length_map]; exact List.length_filter_le _ _
       refine g_step rfl (s_val (v_move rfl) rfl rfl ?_)
       refine g_step rfl (s_callp rfl rfl rfl (members_ok l _ (by omega)) ?_)
       rintro _ rfl
       refine g_step rfl (s_val (v_len ty35 rfl (by first | rfl | assumption) (by first | exact List.length_map .. | rfl)) rfl rfl ?_)
       refine g_step rfl (s_val (v_move rfl) rfl rfl ?_)
       refine g_nil ?_
       refine g_next hK14 ?_
       refine g_block ?_
       first | refine g_keep [0, 2, 36, 37, 38] [4] [4] (keep_cons rfl (keep_cons rfl (keep_cons rfl (keep_cons rfl (keep_cons rfl keep_nil))))) (lkeep_cons rfl lkeep_nil) (keep_cons rfl keep_nil) rfl ?_ | refine g_keep [0, 2, 36, 37, 38] [4] [4] rfl rfl rfl rfl ?_
       refine g_loop (fun n env L B G => ∃ (k : Nat) , k ≤ (membs l).length ∧ n = (membs l).length - k ∧ env = [(0, encRs l), (2, .int .i64 w), (36, .imm ((membs l).map encMv)), (37, .int .i64 ((membs l).length : Int)), (38, .int .i64 (k : Int))] ∧ L = [(4, 4, 0)] ∧ B = [(4, encSp t)] ∧ H = G ∧ ((membs l).take k).any (overP t) = false) ((membs l).length) ⟨0, Nat.zero_le _, rfl, rfl, rfl, rfl, rfl, rfl⟩ (fun n env L B G hI => ?_)
       obtain ⟨k, hk, rfl, rfl, rfl, rfl, rfl, hc⟩ := hI
       refine g_seq (fun K15 hK15 => ?_)
       refine g_region ?_
       refine g_step rfl (s_val (v_lss rfl rfl) rfl rfl ?_)
       refine g_nil ?_
       refine g_next hK15 ?_
       refine g_seq (fun K16 hK16 => ?_)
       refine g_cond rfl (fun hc39 => ?_) (fun hc39 => ?_)
       ·
        try simp only [NM] at hc39
        obtain ⟨x, hx⟩ := get_some (l := (membs l)) (k := k) (by omega)
        refine g_skip ?_
        refine g_next hK16 ?_
        refine g_seq (fun K17 hK17 => ?_)
        refine g_block ?_
        refine g_seq (fun K18 hK18 => ?_)
        refine g_region ?_
        refine g_step rfl (s_val (v_indexAddr ty35 ty42 rfl rfl (by first | rfl | assumption) (by first | rfl | exact (rfl : (0 : Int) = ((0 : Nat) : Int)) | exact (Int.toNat_of_nonneg (by omega)).symm) (map_get hx) rfl) rfl rfl ?_)
        refine g_step rfl (s_val (by first | exact v_load_elt ty42 rfl rfl (by first | rfl | assumption) (by first | assumption | exact map_get (by assumption) | rfl) rfl rfl | exact v_load_box_all ty42 rfl rfl (by assumption) rfl rfl | exact v_load_part (cs := [_, _, _]) ty42 rfl rfl (by first | rfl | assumption) (by first | assumption | exact map_get (by assumption) | rfl) rfl rfl rfl | exact v_load_box_part (cs := [_, _, _]) ty42 rfl rfl (by assumption) rfl rfl rfl) rfl rfl ?_)
        refine g_step rfl (s_alloc (av := (.agg [(.int .i64 0), (.int .i64 0), (.int .i64 0)])) ty42 rfl rfl rfl rfl ?_)
        refine g_step rfl (s_store_all ty42 rfl rfl rfl rfl rfl rfl ?_)
        refine g_nil ?_
        refine g_next hK18 ?_
        refine g_seq (fun K19 hK19 => ?_)
        refine g_region ?_
        refine g_step rfl (s_fieldAddr ty42 fo42_1 ty24 rfl rfl ?_)
        refine g_step rfl (s_fieldAddr ty24 fo24_0 ty3 rfl rfl ?_)
        refine g_step rfl (s_val (v_loadl ty3 rfl rfl rfl rfl) rfl rfl ?_)
        refine g_step rfl (s_fieldAddr ty24 fo24_0 ty3 rfl rfl ?_)
        refine g_step rfl (s_val (v_loadl ty3 rfl rfl rfl rfl) rfl rfl ?_)
        refine g_step rfl (s_val (v_gtr rfl rfl) rfl rfl ?_)
        refine g_step rfl (s_val (v_move rfl) rfl rfl ?_)
        refine g_split 48 rfl (fun hg48 => ?_) (fun hg48 => ?_)
        ·
         try simp only [NM] at hg48
         refine g_step_no (j := 6) (t := 48) rfl rfl rfl rfl rfl rfl rfl ?_
         refine g_step_no (j := 6) (t := 48) rfl rfl rfl rfl rfl rfl rfl ?_
         refine g_step_no (j := 6) (t := 48) rfl rfl rfl rfl rfl rfl rfl ?_
         refine g_step_no (j := 6) (t := 48) rfl rfl rfl rfl rfl rfl rfl ?_
         refine g_step_no (j := 6) (t := 48) rfl rfl rfl rfl rfl rfl rfl ?_
         refine g_step_no (j := 6) (t := 48) rfl rfl rfl rfl rfl rfl rfl ?_
         refine g_step rfl (s_val (v_pick_t rfl rfl) rfl rfl ?_)
         refine g_nil ?_
         refine g_next hK19 ?_
         refine g_cond rfl (fun _ => ?_) (fun h => by cases h)
         refine g_seq (fun K20 hK20 => ?_)
         refine g_region ?_
         refine g_step rfl (s_val (v_assign rfl) rfl rfl ?_)
         refine g_nil ?_
         refine g_next hK20 ?_
         refine g_ret ?_
         refine g_block_ret ?_
         refine g_then_ret ?_
         refine g_then_ret ?_
         refine g_block_ret ?_
         refine g_then_ret ?_
         refine g_end1 (.inl rfl) Try.results60 (.tmp rfl) [] (ASub.refl _) (AHeap.sub_refl _) (fun p hp => by cases hp) ⟨rfl, ?_⟩
         first | (rw [mayE, if_neg hA, if_neg hB, if_neg hC, if_pos (any_stop hx (by simp [overP]; omega))]; done) | (rw [mayE, if_neg hA, if_neg hB, if_neg hC, if_pos (any_stop hx (by simp [overP]; omega))]; rfl)
        ·
         try simp only [NM] at hg48
         refine g_step_yes (j := 6) (t := 48) rfl rfl rfl rfl (s_fieldAddr ty42 fo42_1 ty24 rfl rfl ?_)
         refine g_step_yes (j := 6) (t := 48) rfl rfl rfl rfl (s_fieldAddr ty24 fo24_1 ty3 rfl rfl ?_)
         refine g_step_yes (j := 6) (t := 48) rfl rfl rfl rfl (s_val (v_loadl ty3 rfl rfl rfl rfl) rfl rfl ?_)
         refine g_step_yes (j := 6) (t := 48) rfl rfl rfl rfl (s_fieldAddr ty24 fo24_1 ty3 rfl rfl ?_)
         refine g_step_yes (j := 6) (t := 48) rfl rfl rfl rfl (s_val (v_loadl ty3 rfl rfl rfl rfl) rfl rfl ?_)
         refine g_step_yes (j := 6) (t := 48) rfl rfl rfl rfl (s_val (v_gtr rfl rfl) rfl rfl ?_)
         refine g_step rfl (s_val (v_pick_f rfl rfl) rfl rfl ?_)
         refine g_nil ?_
         refine g_next hK19 ?_
         refine g_cond rfl (fun hc55 => ?_) (fun hc55 => ?_)
         ·
          try simp only [NM] at hc55
          refine g_seq (fun K21 hK21 => ?_)
          refine g_region ?_
          refine g_step rfl (s_val (v_assign rfl) rfl rfl ?_)
          refine g_nil ?_
          refine g_next hK21 ?_
          refine g_ret ?_
          refine g_block_ret ?_
          refine g_then_ret ?_
          refine g_then_ret ?_
          refine g_block_ret ?_
          refine g_then_ret ?_
          refine g_end1 (.inl rfl) Try.results60 (.tmp rfl) [] (ASub.refl _) (AHeap.sub_refl _) (fun p hp => by cases hp) ⟨rfl, ?_⟩
          first | (rw [mayE, if_neg hA, if_neg hB, if_neg hC, if_pos (any_stop hx (by simp [overP]; omega))]; done) | (rw [mayE, if_neg hA, if_neg hB, if_neg hC, if_pos (any_stop hx (by simp [overP]; omega))]; rfl)
         ·
          try simp only [NM] at hc55
          refine g_skip ?_
          refine g_block_normal ?_
          refine g_next hK17 ?_
          refine g_region ?_
          refine g_step rfl (s_val (v_add rfl rfl (by omega)) rfl rfl ?_)
          refine g_step rfl (s_val (v_move rfl) rfl rfl ?_)
          refine g_nil ?_
          first | refine g_keep [0, 2, 36, 37, 38] [4] [4] (keep_cons rfl (keep_cons rfl (keep_cons rfl (keep_cons rfl (keep_cons rfl keep_nil))))) (lkeep_cons rfl lkeep_nil) (keep_cons rfl keep_nil) rfl ?_ | refine g_keep [0, 2, 36, 37, 38] [4] [4] rfl rfl rfl rfl ?_
          exact g_round _ (by omega) ⟨k + 1, by omega, rfl, rfl, rfl, rfl, rfl, by rw [any_snoc hx, hc, Bool.false_or]; simp [overP]; omega⟩
       ·
        try simp only [NM] at hc39
        obtain rfl : k = (membs l).length := by omega
        rw [List.take_length] at hc
        refine g_exit ?_
        refine g_then_exit ?_
        refine g_then_exit ?_
        refine g_block_same ?_
        refine g_next hK13 ?_
        refine g_seq (fun K22 hK22 => ?_)
        refine g_seq (fun K23 hK23 => ?_)
        refine g_region ?_
        refine g_step rfl (s_val (v_move rfl) rfl rfl ?_)
        refine g_step rfl (s_val (v_eql rfl rfl) rfl rfl ?_)
        refine g_step rfl (s_val (v_move rfl) rfl rfl ?_)
        refine g_split 59 rfl (fun hg59 => ?_) (fun hg59 => ?_)
        ·
         try simp only [NM] at hg59
         refine g_step_yes (j := 2) (t := 59) rfl rfl rfl rfl (s_val (v_move rfl) rfl rfl ?_)
         refine g_step_yes (j := 2) (t := 59) rfl rfl rfl rfl (s_fieldAddr ty24 fo24_1 ty3 rfl rfl ?_)
         refine g_step_yes (j := 2) (t := 59) rfl rfl rfl rfl (s_val (v_loadl ty3 rfl rfl rfl rfl) rfl rfl ?_)
         refine g_step_yes (j := 2) (t := 59) rfl rfl rfl rfl (s_callp rfl rfl rfl (open_ok l t.hi _ (by omega)) ?_)
         rintro _ rfl
         refine g_step_yes (j := 2) (t := 59) rfl rfl rfl rfl (s_val (v_not rfl) rfl rfl ?_)
         refine g_step rfl (s_val (v_pick_t rfl rfl) rfl rfl ?_)
         refine g_nil ?_
         refine g_next hK23 ?_
         refine g_cond rfl (fun hc65 => ?_) (fun hc65 => ?_)
         ·
          try simp only [NM] at hc65
          refine g_seq (fun K24 hK24 => ?_)
          refine g_region ?_
          refine g_step rfl (s_val (v_assign rfl) rfl rfl ?_)
          refine g_nil ?_
          refine g_next hK24 ?_
          refine g_ret ?_
          refine g_then_ret ?_
          refine g_end1 (.inl rfl) Try.results60 (.tmp rfl) [] (ASub.refl _) (AHeap.sub_refl _) (fun p hp => by cases hp) ⟨rfl, ?_⟩
          first | (rw [mayE, if_neg hA, if_neg hB, if_neg hC, if_neg (by rw [hc]; simp), if_pos (by constructor <;> first | omega | simp_all)]; done) | (rw [mayE, if_neg hA, if_neg hB, if_neg hC, if_neg (by rw [hc]; simp), if_pos (by constructor <;> first | omega | simp_all)]; rfl)
         ·
          try simp only [NM] at hc65
          refine g_skip ?_
          refine g_next hK22 ?_
          refine g_seq (fun K25 hK25 => ?_)
          refine g_region ?_
          refine g_step rfl (s_val (v_assign rfl) rfl rfl ?_)
          refine g_nil ?_
          refine g_next hK25 ?_
          refine g_ret ?_
          refine g_end1 (.inl rfl) Try.results60 (.tmp rfl) [] (ASub.refl _) (AHeap.sub_refl _) (fun p hp => by cases hp) ⟨rfl, ?_⟩
          first | (rw [mayE, if_neg hA, if_neg hB, if_neg hC, if_neg (by rw [hc]; simp), if_neg (by rintro ⟨h1, h2⟩; simp_all)]; done) | (rw [mayE, if_neg hA, if_neg hB, if_neg hC, if_neg (by rw [hc]; simp), if_neg (by rintro ⟨h1, h2⟩; simp_all)]; rfl)
        ·
         try simp only [NM] at hg59
         refine g_step_no (j := 2) (t := 59) rfl rfl rfl rfl rfl rfl rfl ?_
         refine g_step_no (j := 2) (t := 59) rfl rfl rfl rfl rfl rfl rfl ?_
         refine g_step_no (j := 2) (t := 59) rfl rfl rfl rfl rfl rfl rfl ?_
         refine g_step_no (j := 2) (t := 59) rfl rfl rfl rfl rfl rfl rfl ?_
         refine g_step_no (j := 2) (t := 59) rfl rfl rfl rfl rfl rfl rfl ?_
         refine g_step rfl (s_val (v_pick_f rfl rfl) rfl rfl ?_)
         refine g_nil ?_
         refine g_next hK23 ?_
         refine g_cond rfl (fun h => by cases h) (fun _ => ?_)
         refine g_skip ?_
         refine g_next hK22 ?_
         refine g_seq (fun K26 hK26 => ?_)
         refine g_region ?_
         refine g_step rfl (s_val (v_assign rfl) rfl rfl ?_)
         refine g_nil ?_
         refine g_next hK26 ?_
         refine g_ret ?_
         refine g_end1 (.inl rfl) Try.results60 (.tmp rfl) [] (ASub.refl _) (AHeap.sub_refl _) (fun p hp => by cases hp) ⟨rfl, ?_⟩
         first | (rw [mayE, if_neg hA, if_neg hB, if_neg hC, if_neg (by rw [hc]; simp), if_neg (by rintro ⟨h1, h2⟩; simp_all)]; done) | (rw [mayE, if_neg hA, if_neg hB, if_neg hC, if_neg (by rw [hc]; simp), if_neg (by rintro ⟨h1, h2⟩; simp_all)]; rfl)

end Go.Proofs.Ytgedefcjngofkaa

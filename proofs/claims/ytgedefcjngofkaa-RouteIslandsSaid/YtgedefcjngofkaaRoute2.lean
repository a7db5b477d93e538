import Derived.Test.YtgedefcjngofkaaRoute
set_option maxHeartbeats 8000000
set_option linter.unusedSimpArgs false
set_option linter.unusedVariables false
set_option maxRecDepth 100000
namespace Go.Proofs.Ytgedefcjngofkaa
open Go Go.Proofs.Ytgedefcjngofkaa.AM
theorem far_ok (l : List Rc) (f : Nat) (least : Int) (G : AHeap) (hl : l.length ≤ 1000) (hf : f < l.length) : PCalls Try.prog 82 [encRs l, .int .i64 (f : Int), .int .i64 least] G (fun v => v = .imm ((farP l f least).map (.int .i64))) := by
  refine LCalls.intro 50 fi82 rfl Try.ntmps82 rfl (fun _ h => h.elim) (fun H hH w0 hw0 => ?_)
  refine g_seq (fun K0 hK0 => ?_)
  refine g_region ?_
  refine g_step rfl (s_box rfl rfl rfl rfl ?_)
  refine g_step rfl (s_box rfl rfl rfl rfl ?_)
  refine g_step rfl (s_val (v_assign rfl) rfl rfl ?_)
  refine g_nil ?_
  refine g_next hK0 ?_
  refine g_seq (fun K1 hK1 => ?_)
  refine g_region ?_
  refine g_step rfl (s_val (v_loadl ty22 rfl rfl rfl rfl) rfl rfl ?_)
  refine g_step rfl (s_val (v_len ty22 rfl (by first | rfl | assumption) (by first | exact List.length_map .. | rfl)) rfl rfl ?_)
  refine g_step rfl (s_makeO (n := l.length) (za := (.int .i64 0)) ty27 ty3 rfl rfl rfl rfl rfl rfl (by omega) (by omega) ?_)
  intro r16 hr16 hw16
  refine g_step rfl (s_alloc (av := .nil0) ty27 rfl rfl rfl rfl ?_)
  refine g_step rfl (s_store_all ty27 rfl rfl rfl rfl rfl rfl ?_)
  refine g_nil ?_
  refine g_next hK1 ?_
  refine g_seq (fun K2 hK2 => ?_)
  refine g_seq (fun K3 hK3 => ?_)
  refine g_region ?_
  refine g_step rfl (s_val (v_loadl ty27 rfl rfl rfl rfl) rfl rfl ?_)
  refine g_step rfl (s_val (v_len ty27 rfl (AV.view_own_all (AHeap.get_set _ _ _) (by simp)) (by rw [List.length_replicate])) rfl rfl ?_)
  refine g_step rfl (s_val (v_move rfl) rfl rfl ?_)
  refine g_nil ?_
  refine g_next hK3 ?_
  refine g_block ?_
  first | refine g_keep [1, 18, 19] [3, 5, 7] [3, 5, 7] (keep_cons rfl (keep_cons rfl (keep_cons rfl keep_nil))) (lkeep_cons rfl (lkeep_cons rfl (lkeep_cons rfl lkeep_nil))) (keep_cons rfl (keep_cons rfl (keep_cons rfl keep_nil))) rfl ?_ | refine g_keep [1, 18, 19] [3, 5, 7] [3, 5, 7] rfl rfl rfl rfl ?_
  refine g_loop (fun n env L B G => ∃ (k : Nat) (R : List Int), k ≤ l.length ∧ n = l.length - k ∧ env = [(1, .int .i64 (f : Int)), (18, .int .i64 (l.length : Int)), (19, .int .i64 (k : Int))] ∧ L = [(3, 3, 0), (5, 5, 0), (7, 7, 0)] ∧ B = [(3, encRs l), (5, .int .i64 least), (7, .own r16 1 0 l.length)] ∧ G = H.set r16 (.row 1 (R.map (.int .i64))) ∧ R = (List.range l.length).map (fun j => if j < k then (-1 : Int) else 0)) (l.length) ⟨0, (List.range l.length).map (fun j => if j < 0 then (-1 : Int) else 0), Nat.zero_le _, rfl, rfl, rfl, rfl, (by rw [rep_range]), rfl⟩ (fun n env L B G hI => ?_)
  obtain ⟨k, R, hk, rfl, rfl, rfl, rfl, rfl, hR⟩ := hI
  refine g_seq (fun K4 hK4 => ?_)
  refine g_region ?_
  refine g_step rfl (s_val (v_lss rfl rfl) rfl rfl ?_)
  refine g_nil ?_
  refine g_next hK4 ?_
  refine g_seq (fun K5 hK5 => ?_)
  refine g_cond rfl (fun hc20 => ?_) (fun hc20 => ?_)
  · try simp only [decide_eq_true_eq, decide_eq_false_iff_not, Bool.not_eq_true', Bool.not_eq_false', Bool.not_eq_eq_eq_not, Bool.not_true, Bool.not_false, Bool.and_eq_true, Bool.or_eq_true, Bool.or_eq_false_iff, beq_iff_eq, beq_eq_false_iff_ne, ne_eq, Int.not_lt, Int.not_le, Decidable.not_not] at hc20
    have hfk : R[k]? = some 0 := by rw [hR, range_get _ (by omega)]; simp
    have hRl : R.length = l.length := by rw [hR]; simp
    refine g_skip ?_
    refine g_next hK5 ?_
    refine g_seq (fun K6 hK6 => ?_)
    refine g_block ?_
    refine g_seq (fun K7 hK7 => ?_)
    refine g_region ?_
    refine g_step rfl (s_val (v_move rfl) rfl rfl ?_)
    refine g_step rfl (s_val (v_assign rfl) rfl rfl ?_)
    refine g_nil ?_
    refine g_next hK7 ?_
    refine g_region ?_
    refine g_step rfl (s_val (v_loadl ty27 rfl rfl rfl rfl) rfl rfl ?_)
    refine g_step rfl (s_val (v_move rfl) rfl rfl ?_)
    refine g_step rfl (s_val (v_indexAddr ty27 ty3 rfl rfl (AV.view_own_all (AHeap.get_set _ _ _) (by rw [List.length_map]; omega)) (by first | rfl | exact (rfl : (0 : Int) = ((0 : Nat) : Int)) | exact (Int.toNat_of_nonneg (by omega)).symm) (map_get hfk) rfl) rfl rfl ?_)
    refine g_step rfl (s_store_row (k := k) (off := 0) (old := .int .i64 0) (new := .int .i64 (-1)) ty3 rfl rfl (AHeap.get_set _ _ _) (by rw [Nat.zero_add]; exact map_get hfk) rfl rfl rfl rfl (.inr hw16) ?_)
    rw [Nat.zero_add k, show (List.map (AV.int .i64) R).set k (.int .i64 (-1)) = (R.set k (-1)).map (.int .i64) from List.map_set.symm, AHeap.set_set]
    refine g_nil ?_
    refine g_block_normal ?_
    refine g_next hK6 ?_
    refine g_region ?_
    refine g_step rfl (s_val (v_add rfl rfl (by omega)) rfl rfl ?_)
    refine g_step rfl (s_val (v_move rfl) rfl rfl ?_)
    refine g_nil ?_
    first | refine g_keep [1, 18, 19] [3, 5, 7] [3, 5, 7] (keep_cons rfl (keep_cons rfl (keep_cons rfl keep_nil))) (lkeep_cons rfl (lkeep_cons rfl (lkeep_cons rfl lkeep_nil))) (keep_cons rfl (keep_cons rfl (keep_cons rfl keep_nil))) rfl ?_ | refine g_keep [1, 18, 19] [3, 5, 7] [3, 5, 7] rfl rfl rfl rfl ?_
    exact g_round _ (by omega) ⟨k + 1, R.set k (-1), by omega, rfl, rfl, rfl, rfl, rfl, by rw [hR]; exact fill_set (fun _ => -1) (fun _ => 0) (by omega)⟩
  · try simp only [decide_eq_true_eq, decide_eq_false_iff_not, Bool.not_eq_true', Bool.not_eq_false', Bool.not_eq_eq_eq_not, Bool.not_true, Bool.not_false, Bool.and_eq_true, Bool.or_eq_true, Bool.or_eq_false_iff, beq_iff_eq, beq_eq_false_iff_ne, ne_eq, Int.not_lt, Int.not_le, Decidable.not_not] at hc20
    obtain rfl : k = l.length := by omega
    have hRf : R[f]? = some (-1) := by rw [hR, range_get _ hf]; simp [hf]
    have hRl : R.length = l.length := by rw [hR]; simp
    refine g_exit ?_
    refine g_then_exit ?_
    refine g_then_exit ?_
    refine g_block_same ?_
    refine g_next hK2 ?_
    refine g_seq (fun K8 hK8 => ?_)
    refine g_region ?_
    refine g_step rfl (s_val (v_loadl ty27 rfl rfl rfl rfl) rfl rfl ?_)
    refine g_step rfl (s_val (v_move rfl) rfl rfl ?_)
    refine g_step rfl (s_val (v_indexAddr ty27 ty3 rfl rfl (AV.view_own_all (AHeap.get_set _ _ _) (by rw [List.length_map]; omega)) (by first | rfl | exact (rfl : (0 : Int) = ((0 : Nat) : Int)) | exact (Int.toNat_of_nonneg (by omega)).symm) (map_get hRf) rfl) rfl rfl ?_)
    refine g_step rfl (s_store_row (k := f) (off := 0) (old := .int .i64 (-1)) (new := .int .i64 0) ty3 rfl rfl (AHeap.get_set _ _ _) (by rw [Nat.zero_add]; exact map_get hRf) rfl rfl rfl rfl (.inr hw16) ?_)
    rw [Nat.zero_add f, show (List.map (AV.int .i64) R).set f (.int .i64 0) = (R.set f 0).map (.int .i64) from List.map_set.symm, AHeap.set_set]
    have hR0 : R.set f 0 = ((List.range l.length).map (dv (adj l least) l.length f 0)) := by
        rw [hR, range_set _ _ hf]
        exact range_congr fun j hj => by simp only [hj, ↓reduceIte]; rfl
    rw [hR0]
    refine g_nil ?_
    refine g_next hK8 ?_
    refine g_seq (fun K9 hK9 => ?_)
    refine g_region ?_
    refine g_expose 3 rfl rfl (fun r3 hr3 hw3 => ?_)
    refine g_expose 7 rfl rfl (fun r7 hr7 hw7 => ?_)
    refine g_expose 5 rfl rfl (fun r5 hr5 hw5 => ?_)
    refine g_step rfl (s_val (v_makeFunc rfl) rfl rfl ?_)
    refine g_step rfl (s_val (v_assign rfl) rfl rfl ?_)
    refine g_nil ?_
    refine g_next hK9 ?_
    refine g_seq (fun K10 hK10 => ?_)
    refine g_seq (fun K11 hK11 => ?_)
    refine g_region ?_
    have h37 : r3 ≠ r7 := fun e => by subst e; rw [AHeap.get_set] at hr7; cases hr7
    have h35 : r3 ≠ r5 := fun e => by subst e; rw [AHeap.get_set_ne _ _ h37, AHeap.get_set] at hr5; cases hr5
    have h75 : r7 ≠ r5 := fun e => by subst e; rw [AHeap.get_set] at hr5; cases hr5
    have h163 : r16 ≠ r3 := fun e => by subst e; rw [AHeap.get_set] at hr3; cases hr3
    have h167 : r16 ≠ r7 := fun e => by subst e; rw [AHeap.get_set_ne _ _ h163, AHeap.get_set] at hr7; cases hr7
    have h165 : r16 ≠ r5 := fun e => by subst e; rw [AHeap.get_set_ne _ _ h167, AHeap.get_set_ne _ _ h163, AHeap.get_set] at hr5; cases hr5
    have hst0 : FarSt r3 r7 r5 r16 l least H _ ((List.range l.length).map (dv (adj l least) l.length f 0)) := ⟨by rw [AHeap.get_set_ne _ _ h35, AHeap.get_set_ne _ _ h37]; exact AHeap.get_set _ _ _, by rw [AHeap.get_set_ne _ _ h75]; exact AHeap.get_set _ _ _, AHeap.get_set _ _ _, by rw [AHeap.get_set_ne _ _ h165, AHeap.get_set_ne _ _ h167, AHeap.get_set_ne _ _ h163]; exact AHeap.get_set _ _ _, AHeap.sub_set (AHeap.sub_set (AHeap.sub_set (AHeap.sub_set (AHeap.sub_refl _) hr16) hr3) hr7) hr5, by simp⟩
    generalize (AHeap.set (AHeap.set (AHeap.set (AHeap.set H r16 _) r3 _) r7 _) r5 _) = G1 at hst0 ⊢
    refine g_step rfl (s_val (v_move rfl) rfl rfl ?_)
    refine g_step rfl (s_lit ty27 ty3 rfl rfl rfl rfl rfl rfl rfl ?_)
    refine g_step rfl (s_val (v_assign rfl) rfl rfl ?_)
    refine g_nil ?_
    refine g_next hK11 ?_
    refine g_block ?_
    first | refine g_keep [7, 9, 10] [] [] (keep_cons rfl (keep_cons rfl (keep_cons rfl keep_nil))) lkeep_nil keep_nil rfl ?_ | refine g_keep [7, 9, 10] [] [] rfl rfl rfl rfl ?_
    refine g_loop (fun n env L B G => ∃ (lv : Nat) (row : List Nat), n = negs l.length (dv (adj l least) l.length f lv) + row.length ∧ env = [(7, .box r7 0), (9, .fn (.func 100) [.box r3 0, .box r7 0, .box r5 0]), (10, .imm ((row.map fun k : Nat => (k : Int)).map (.int .i64)))] ∧ L = [] ∧ B = [] ∧ row.length ≤ l.length ∧ FarSt r3 r7 r5 r16 l least H G ((List.range l.length).map (dv (adj l least) l.length f lv)) ∧ ∀ i, i ∈ row ↔ (i < l.length ∧ (dv (adj l least) l.length f lv) i = (lv : Int))) (negs l.length (dv (adj l least) l.length f 0) + 1) ⟨0, [f], rfl, rfl, rfl, rfl, by simp; omega, hst0, row_zero hf⟩ (fun n env L B G hI => ?_)
    obtain ⟨lv, row, rfl, rfl, rfl, rfl, hrl, hst, hrow⟩ := hI
    have hne := negs_le l.length (dv (adj l least) l.length f lv)
    refine g_seq (fun K12 hK12 => ?_)
    refine g_seq (fun K13 hK13 => ?_)
    refine g_region ?_
    refine g_step rfl (s_val (v_move rfl) rfl rfl ?_)
    refine g_step rfl (s_val (v_len ty27 rfl (by first | rfl | assumption) (by rw [List.length_map, List.length_map])) rfl rfl ?_)
    refine g_step rfl (s_val (v_gtr rfl rfl) rfl rfl ?_)
    refine g_nil ?_
    refine g_next hK13 ?_
    refine g_cond rfl (fun hc34 => ?_) (fun hc34 => ?_)
    · try simp only [decide_eq_true_eq, decide_eq_false_iff_not, Bool.not_eq_true', Bool.not_eq_false', Bool.not_eq_eq_eq_not, Bool.not_true, Bool.not_false, Bool.and_eq_true, Bool.or_eq_true, Bool.or_eq_false_iff, beq_iff_eq, beq_eq_false_iff_ne, ne_eq, Int.not_lt, Int.not_le, Decidable.not_not] at hc34
      refine g_skip ?_
      refine g_next hK12 ?_
      refine g_block ?_
      refine g_seq (fun K14 hK14 => ?_)
      refine g_region ?_
      refine g_step rfl (s_val (v_assign rfl) rfl rfl ?_)
      refine g_nil ?_
      refine g_next hK14 ?_
      refine g_seq (fun K15 hK15 => ?_)
      refine g_seq (fun K16 hK16 => ?_)
      refine g_region ?_
      refine g_sub 11 rfl ASub.nil0 ?_
      refine g_step rfl (s_val (v_move rfl) rfl rfl ?_)
      refine g_step rfl (s_val (v_len ty27 rfl (by first | rfl | assumption) (by rw [List.length_map, List.length_map])) rfl rfl ?_)
      refine g_step rfl (s_val (v_move rfl) rfl rfl ?_)
      refine g_nil ?_
      refine g_next hK16 ?_
      refine g_block ?_
      first | refine g_keep [7, 9, 11, 35, 36, 37] [] [] (keep_cons rfl (keep_cons rfl (keep_cons rfl (keep_cons rfl (keep_cons rfl (keep_cons rfl keep_nil)))))) lkeep_nil keep_nil rfl ?_ | refine g_keep [7, 9, 11, 35, 36, 37] [] [] rfl rfl rfl rfl ?_
      refine g_loop (fun n env L B G => ∃ (j : Nat) (nx : List Nat), j ≤ row.length ∧ n = row.length - j ∧ env = [(7, .box r7 0), (9, .fn (.func 100) [.box r3 0, .box r7 0, .box r5 0]), (11, .imm ((nx.map fun k : Nat => (k : Int)).map (.int .i64))), (35, .imm ((row.map fun k : Nat => (k : Int)).map (.int .i64))), (36, .int .i64 (row.length : Int)), (37, .int .i64 (j : Int))] ∧ L = [] ∧ B = [] ∧ FarSt r3 r7 r5 r16 l least H G ((List.range l.length).map (midF (adj l least) l.length f lv (row.take j))) ∧ NextOk (adj l least) l.length f lv (row.take j) nx ∧ nx.length + negs l.length (midF (adj l least) l.length f lv (row.take j)) = negs l.length (dv (adj l least) l.length f lv)) (row.length) ⟨0, [], Nat.zero_le _, rfl, rfl, rfl, rfl, by rw [show row.take 0 = [] from rfl, show midF (adj l least) l.length f lv [] = (dv (adj l least) l.length f lv) from funext (mid_nil lv)]; exact ⟨hst, next_nil lv, by simp⟩⟩ (fun n env L B G hI => ?_)
      obtain ⟨j, nx, hj, rfl, rfl, rfl, rfl, hst, hnx, hng⟩ := hI
      refine g_seq (fun K17 hK17 => ?_)
      refine g_region ?_
      refine g_step rfl (s_val (v_lss rfl rfl) rfl rfl ?_)
      refine g_nil ?_
      refine g_next hK17 ?_
      refine g_seq (fun K18 hK18 => ?_)
      refine g_cond rfl (fun hc38 => ?_) (fun hc38 => ?_)
      · try simp only [decide_eq_true_eq, decide_eq_false_iff_not, Bool.not_eq_true', Bool.not_eq_false', Bool.not_eq_eq_eq_not, Bool.not_true, Bool.not_false, Bool.and_eq_true, Bool.or_eq_true, Bool.or_eq_false_iff, beq_iff_eq, beq_eq_false_iff_ne, ne_eq, Int.not_lt, Int.not_le, Decidable.not_not] at hc38
        obtain ⟨i, hi⟩ := get_some (l := row) (k := j) (by omega)
        have hri := (hrow i).1 (mem_get hi)
        have hlv := dv_small (adj l least) l.length f hf hri.1 hri.2
        have hmi : (midF (adj l least) l.length f lv (row.take j)) i = (lv : Int) := by unfold midF; rw [if_pos (by omega), hri.2]
        have hfe : nearF (adj l least) i (midF (adj l least) l.length f lv (row.take j)) = midF (adj l least) l.length f lv (row.take j ++ [i]) := funext (mid_near hri.2)
        have hnn := near_negs (A := (adj l least)) (N := l.length) (i := i) (F := (midF (adj l least) l.length f lv (row.take j))) (by omega)
        have hne := negs_le l.length (dv (adj l least) l.length f lv)
        have hnp := List.length_filter_le (nearP (adj l least) i (midF (adj l least) l.length f lv (row.take j))) (List.range l.length)
        rw [List.length_range] at hnp
        refine g_skip ?_
        refine g_next hK18 ?_
        refine g_seq (fun K19 hK19 => ?_)
        refine g_block ?_
        refine g_seq (fun K20 hK20 => ?_)
        refine g_region ?_
        refine g_step rfl (s_val (v_indexAddr ty27 ty3 rfl rfl (by first | rfl | assumption) (by first | rfl | exact (rfl : (0 : Int) = ((0 : Nat) : Int)) | exact (Int.toNat_of_nonneg (by omega)).symm) (map_get (map_get hi)) rfl) rfl rfl ?_)
        refine g_step rfl (s_val (by first | exact v_load ty3 rfl rfl (by first | rfl | assumption) (map_get (map_get hi)) rfl | exact v_load_box ty3 rfl rfl (by assumption) rfl) rfl rfl ?_)
        refine g_step rfl (s_val (v_assign rfl) rfl rfl ?_)
        refine g_nil ?_
        refine g_next hK20 ?_
        refine g_region ?_
        refine g_step rfl (s_val (v_move rfl) rfl rfl ?_)
        refine g_step rfl (s_val (v_move rfl) rfl rfl ?_)
        refine g_step rfl (s_val (v_move rfl) rfl rfl ?_)
        refine g_step rfl (s_call rfl rfl rfl (near_ok r3 r7 r5 r16 _ i l least (midF (adj l least) l.length f lv (row.take j)) _ hst.bl hst.bo hst.row hst.bc rfl hri.1 (by omega) hl) (fun b hb => .inr (by subst hb; exact hw16)) ?_)
        rintro n1 r1 effs1 hn1 hdom1 ⟨rfl, rfl⟩ hok1
        have hst2 : FarSt r3 r7 r5 r16 l least H (setAll G [(r16, .row 1 (((List.range l.length).map (nearF (adj l least) i (midF (adj l least) l.length f lv (row.take j)))).map (.int .i64)))]) ((List.range l.length).map (nearF (adj l least) i (midF (adj l least) l.length f lv (row.take j)))) := hst.put hr16 (by simp)
        rw [hfe] at hst2 ⊢
        generalize setAll G _ = G2 at hst2 ⊢
        refine g_step rfl (s_lit ty74 ty27 rfl rfl rfl rfl rfl rfl rfl ?_)
        refine g_step rfl (s_callp rfl rfl rfl (joined_ok [nx.map fun k : Nat => (k : Int), ((List.range l.length).filter (nearP (adj l least) i (midF (adj l least) l.length f lv (row.take j)))).map fun k : Nat => (k : Int)] _ (by simp only [List.flatten_cons, List.flatten_nil, List.append_nil, List.length_append, List.length_map]; omega) (by simp)) ?_)
        rintro _ rfl
        rw [show ([nx.map (fun k : Nat => (k : Int)), ((List.range l.length).filter (nearP (adj l least) i (midF (adj l least) l.length f lv (row.take j)))).map (fun k : Nat => (k : Int))] : List (List Int)).flatten = (nx ++ ((List.range l.length).filter (nearP (adj l least) i (midF (adj l least) l.length f lv (row.take j))))).map (fun k : Nat => (k : Int)) from by simp]
        refine g_step rfl (s_val (v_assign rfl) rfl rfl ?_)
        refine g_nil ?_
        refine g_block_normal ?_
        refine g_next hK19 ?_
        refine g_region ?_
        refine g_step rfl (s_val (v_add rfl rfl (by omega)) rfl rfl ?_)
        refine g_step rfl (s_val (v_move rfl) rfl rfl ?_)
        refine g_nil ?_
        first | refine g_keep [7, 9, 11, 35, 36, 37] [] [] (keep_cons rfl (keep_cons rfl (keep_cons rfl (keep_cons rfl (keep_cons rfl (keep_cons rfl keep_nil)))))) lkeep_nil keep_nil rfl ?_ | refine g_keep [7, 9, 11, 35, 36, 37] [] [] rfl rfl rfl rfl ?_
        exact g_round _ (by omega) ⟨j + 1, nx ++ ((List.range l.length).filter (nearP (adj l least) i (midF (adj l least) l.length f lv (row.take j)))), by omega, rfl, rfl, rfl, rfl, by rw [show row.take (j + 1) = row.take j ++ [i] from by rw [List.take_add_one, hi]; rfl]; exact ⟨hst2, next_near hri.2 hnx, by rw [← hfe, List.length_append]; omega⟩⟩
      · try simp only [decide_eq_true_eq, decide_eq_false_iff_not, Bool.not_eq_true', Bool.not_eq_false', Bool.not_eq_eq_eq_not, Bool.not_true, Bool.not_false, Bool.and_eq_true, Bool.or_eq_true, Bool.or_eq_false_iff, beq_iff_eq, beq_eq_false_iff_ne, ne_eq, Int.not_lt, Int.not_le, Decidable.not_not] at hc38
        obtain rfl : j = row.length := by omega
        rw [List.take_length] at hst hnx hng
        have hfin : midF (adj l least) l.length f lv row = (dv (adj l least) l.length f (lv + 1)) := funext (mid_row hrow)
        refine g_exit ?_
        refine g_then_exit ?_
        refine g_then_exit ?_
        refine g_block_same ?_
        refine g_next hK15 ?_
        refine g_region ?_
        refine g_step rfl (s_val (v_move rfl) rfl rfl ?_)
        refine g_step rfl (s_val (v_assign rfl) rfl rfl ?_)
        refine g_nil ?_
        refine g_block_normal ?_
        first | refine g_keep [7, 9, 10] [] [] (keep_cons rfl (keep_cons rfl (keep_cons rfl keep_nil))) lkeep_nil keep_nil rfl ?_ | refine g_keep [7, 9, 10] [] [] rfl rfl rfl rfl ?_
        exact g_round _ (by rw [hfin] at hng; omega) ⟨lv + 1, nx, rfl, rfl, rfl, rfl, by omega, by rw [← hfin]; exact hst, next_row hrow hnx⟩
    · try simp only [decide_eq_true_eq, decide_eq_false_iff_not, Bool.not_eq_true', Bool.not_eq_false', Bool.not_eq_eq_eq_not, Bool.not_true, Bool.not_false, Bool.and_eq_true, Bool.or_eq_true, Bool.or_eq_false_iff, beq_iff_eq, beq_eq_false_iff_ne, ne_eq, Int.not_lt, Int.not_le, Decidable.not_not] at hc34
      refine g_exit ?_
      refine g_then_exit ?_
      refine g_then_exit ?_
      refine g_block_same ?_
      refine g_next hK10 ?_
      refine g_seq (fun K21 hK21 => ?_)
      refine g_region ?_
      have hr0 : row = [] := List.eq_nil_of_length_eq_zero (by first | omega | (simp at hc34; omega))
      subst hr0
      have hend : ((List.range l.length).map (dv (adj l least) l.length f lv)) = farP l f least := range_congr fun k hk => rows_end hf hrow hk
      rw [hend] at hst
      refine g_step rfl (s_val (by first | exact v_load ty27 rfl rfl (by first | rfl | assumption) (by first | assumption | exact map_get (by assumption) | rfl) rfl | exact v_load_box ty27 rfl rfl hst.bo (by rfl)) rfl rfl ?_)
      refine g_step rfl (s_val (v_assign rfl) rfl rfl ?_)
      refine g_nil ?_
      refine g_freezeV (sz := 1) (l := (farP l f least).map (.int .i64)) 6 rfl (.inr ⟨r16, by rw [List.length_map, farP_length], hst.row⟩) hst.sub (fun r k e => by cases e; exact hr16) ?_
      refine g_next hK21 ?_
      refine g_ret ?_
      refine g_end1 (.inl rfl) Try.results82 (.tmp rfl) [] (ASub.refl _) (AHeap.sub_refl _) (fun p hp => by cases hp) ⟨rfl, ?_⟩
      rfl

end Go.Proofs.Ytgedefcjngofkaa

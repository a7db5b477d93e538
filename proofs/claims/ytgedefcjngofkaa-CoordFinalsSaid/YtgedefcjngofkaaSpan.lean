import Derived.Test.YtgedefcjngofkaaFacts
import Derived.Test.YtgedefcjngofkaaPSpan
set_option maxHeartbeats 8000000
set_option linter.unusedSimpArgs false
set_option linter.unusedVariables false
set_option maxRecDepth 100000
namespace Go.Proofs.Ytgedefcjngofkaa
open Go Go.Proofs.Ytgedefcjngofkaa.AM
theorem spValid_ok (s : Sp) (G : AHeap) : PCalls Try.prog 27 [encSp s] G (fun r => r = .bool (spValid s)) := by
 refine LCalls.intro 18 fi27 rfl Try.ntmps27 rfl (fun _ h => h.elim) (fun H hH w0 hw0 => ?_)
 refine g_seq (fun K0 hK0 => ?_)
 refine g_region ?_
 refine g_step rfl (s_box rfl rfl rfl rfl ?_)
 refine g_step rfl (s_val (v_assign rfl) rfl rfl ?_)
 refine g_nil ?_
 refine g_next hK0 ?_
 refine g_seq (fun K1 hK1 => ?_)
 refine g_region ?_
 refine g_step rfl (s_fieldAddr ty24 fo24_0 ty3 rfl rfl ?_)
 refine g_step rfl (s_val (v_loadl ty3 rfl rfl rfl rfl) rfl rfl ?_)
 refine g_step rfl (s_val (v_geq rfl rfl) rfl rfl ?_)
 refine g_step rfl (s_val (v_move rfl) rfl rfl ?_)
 refine g_split 6 rfl (fun hg6 => ?_) (fun hg6 => ?_)
 ·
  try simp only [NM] at hg6
  refine g_step_yes (j := 3) (t := 6) rfl rfl rfl rfl (s_fieldAddr ty24 fo24_0 ty3 rfl rfl ?_)
  refine g_step_yes (j := 3) (t := 6) rfl rfl rfl rfl (s_val (v_loadl ty3 rfl rfl rfl rfl) rfl rfl ?_)
  refine g_step_yes (j := 3) (t := 6) rfl rfl rfl rfl (s_fieldAddr ty24 fo24_1 ty3 rfl rfl ?_)
  refine g_step_yes (j := 3) (t := 6) rfl rfl rfl rfl (s_val (v_loadl ty3 rfl rfl rfl rfl) rfl rfl ?_)
  refine g_step_yes (j := 3) (t := 6) rfl rfl rfl rfl (s_val (v_leq rfl rfl) rfl rfl ?_)
  refine g_step rfl (s_val (v_pick_t rfl rfl) rfl rfl ?_)
  refine g_step rfl (s_val (v_move rfl) rfl rfl ?_)
  refine g_split 13 rfl (fun hg13 => ?_) (fun hg13 => ?_)
  ·
   try simp only [NM] at hg13
   refine g_step_yes (j := 10) (t := 13) rfl rfl rfl rfl (s_fieldAddr ty24 fo24_1 ty3 rfl rfl ?_)
   refine g_step_yes (j := 10) (t := 13) rfl rfl rfl rfl (s_val (v_loadl ty3 rfl rfl rfl rfl) rfl rfl ?_)
   refine g_step_yes (j := 10) (t := 13) rfl rfl rfl rfl (s_val (v_leq rfl rfl) rfl rfl ?_)
   refine g_step rfl (s_val (v_pick_t rfl rfl) rfl rfl ?_)
   refine g_step rfl (s_val (v_assign rfl) rfl rfl ?_)
   refine g_nil ?_
   refine g_next hK1 ?_
   refine g_ret ?_
   refine g_end1 (.inl rfl) Try.results27 (.tmp rfl) [] (ASub.refl _) (AHeap.sub_refl _) (fun p hp => by cases hp) ⟨rfl, ?_⟩
   first | (simp only [AV.bool.injEq, spValid, constAV_bool, eq_comm (a := true), eq_comm (a := false), decide_eq_true_eq, decide_eq_false_iff_not, decide_eq_decide]; omega; done) | (simp only [AV.bool.injEq, spValid, constAV_bool, eq_comm (a := true), eq_comm (a := false), decide_eq_true_eq, decide_eq_false_iff_not, decide_eq_decide]; omega; rfl)
  ·
   try simp only [NM] at hg13
   refine g_step_no (j := 10) (t := 13) rfl rfl rfl rfl rfl rfl rfl ?_
   refine g_step_no (j := 10) (t := 13) rfl rfl rfl rfl rfl rfl rfl ?_
   refine g_step_no (j := 10) (t := 13) rfl rfl rfl rfl rfl rfl rfl ?_
   refine g_step rfl (s_val (v_pick_f rfl rfl) rfl rfl ?_)
   refine g_step rfl (s_val (v_assign rfl) rfl rfl ?_)
   refine g_nil ?_
   refine g_next hK1 ?_
   refine g_ret ?_
   refine g_end1 (.inl rfl) Try.results27 (.tmp rfl) [] (ASub.refl _) (AHeap.sub_refl _) (fun p hp => by cases hp) ⟨rfl, ?_⟩
   first | (simp only [AV.bool.injEq, spValid, constAV_bool, eq_comm (a := true), eq_comm (a := false), decide_eq_true_eq, decide_eq_false_iff_not, decide_eq_decide]; omega; done) | (simp only [AV.bool.injEq, spValid, constAV_bool, eq_comm (a := true), eq_comm (a := false), decide_eq_true_eq, decide_eq_false_iff_not, decide_eq_decide]; omega; rfl)
 ·
  try simp only [NM] at hg6
  refine g_step_no (j := 3) (t := 6) rfl rfl rfl rfl rfl rfl rfl ?_
  refine g_step_no (j := 3) (t := 6) rfl rfl rfl rfl rfl rfl rfl ?_
  refine g_step_no (j := 3) (t := 6) rfl rfl rfl rfl rfl rfl rfl ?_
  refine g_step_no (j := 3) (t := 6) rfl rfl rfl rfl rfl rfl rfl ?_
  refine g_step_no (j := 3) (t := 6) rfl rfl rfl rfl rfl rfl rfl ?_
  refine g_step rfl (s_val (v_pick_f rfl rfl) rfl rfl ?_)
  refine g_step rfl (s_val (v_move rfl) rfl rfl ?_)
  refine g_step_no (j := 10) (t := 13) rfl rfl rfl rfl rfl rfl rfl ?_
  refine g_step_no (j := 10) (t := 13) rfl rfl rfl rfl rfl rfl rfl ?_
  refine g_step_no (j := 10) (t := 13) rfl rfl rfl rfl rfl rfl rfl ?_
  refine g_step rfl (s_val (v_pick_f rfl rfl) rfl rfl ?_)
  refine g_step rfl (s_val (v_assign rfl) rfl rfl ?_)
  refine g_nil ?_
  refine g_next hK1 ?_
  refine g_ret ?_
  refine g_end1 (.inl rfl) Try.results27 (.tmp rfl) [] (ASub.refl _) (AHeap.sub_refl _) (fun p hp => by cases hp) ⟨rfl, ?_⟩
  first | (simp only [AV.bool.injEq, spValid, constAV_bool, eq_comm (a := true), eq_comm (a := false), decide_eq_true_eq, decide_eq_false_iff_not, decide_eq_decide]; omega; done) | (simp only [AV.bool.injEq, spValid, constAV_bool, eq_comm (a := true), eq_comm (a := false), decide_eq_true_eq, decide_eq_false_iff_not, decide_eq_decide]; omega; rfl)

theorem spCommon_ok (l : List Sp) (G : AHeap) (hl : l.length ≤ 1000000) : PCalls Try.prog 56 [.imm (l.map encSp)] G (fun r => r = .tup [encSp ((spCommon l).getD ⟨0, 0⟩), .bool (spCommon l).isSome]) := by
 refine LCalls.intro 36 fi56 rfl Try.ntmps56 rfl (fun _ h => h.elim) (fun H hH w0 hw0 => ?_)
 refine g_seq (fun K0 hK0 => ?_)
 refine g_region ?_
 refine g_step rfl (s_alloc (av := (.agg [(.int .i64 0), (.int .i64 0)])) ty24 rfl rfl rfl rfl ?_)
 refine g_step rfl (s_val (v_assign rfl) rfl rfl ?_)
 refine g_nil ?_
 refine g_next hK0 ?_
 refine g_seq (fun K1 hK1 => ?_)
 refine g_region ?_
 refine g_step rfl (s_val (v_build (vs := [(0, _), (1, _)]) (zs := [(.int .i64 0), (.int .i64 0)]) (cells := [_, _]) ty24 pl24 rfl rfl rfl) rfl rfl ?_)
 refine g_step rfl (s_alloc (av := (.agg [(.int .i64 0), (.int .i64 0)])) ty24 rfl rfl rfl rfl ?_)
 refine g_step rfl (s_store_all ty24 rfl rfl rfl rfl rfl rfl ?_)
 refine g_nil ?_
 refine g_next hK1 ?_
 refine g_seq (fun K2 hK2 => ?_)
 refine g_seq (fun K3 hK3 => ?_)
 refine g_region ?_
 refine g_step rfl (s_val (v_move rfl) rfl rfl ?_)
 refine g_step rfl (s_val (v_len ty89 rfl (by first | rfl | assumption) (by first | exact List.length_map .. | rfl)) rfl rfl ?_)
 refine g_step rfl (s_val (v_move rfl) rfl rfl ?_)
 refine g_nil ?_
 refine g_next hK3 ?_
 refine g_block ?_
 first | refine g_keep [8, 9, 10] [2, 4] [2, 4] (keep_cons rfl (keep_cons rfl (keep_cons rfl keep_nil))) (lkeep_cons rfl (lkeep_cons rfl lkeep_nil)) (keep_cons rfl (keep_cons rfl keep_nil)) rfl ?_ | refine g_keep [8, 9, 10] [2, 4] [2, 4] rfl rfl rfl rfl ?_
 refine g_loop (fun n env L B G => ∃ (k : Nat) (acc : Sp), k ≤ l.length ∧ n = l.length - k ∧ env = [(8, .imm (l.map encSp)), (9, .int .i64 (l.length : Int)), (10, .int .i64 (k : Int))] ∧ L = [(2, 2, 0), (4, 4, 0)] ∧ B = [(2, encSp ⟨0, 0⟩), (4, encSp acc)] ∧ G = H ∧ spCom (l.drop k) acc = spCommon l) l.length ⟨0, ⟨1, 3⟩, by omega, rfl, rfl, rfl, rfl, rfl, rfl⟩ (fun n env L B G hI => ?_)
 obtain ⟨k, acc, hk, rfl, rfl, rfl, rfl, rfl, hsc⟩ := hI
 refine g_seq (fun K4 hK4 => ?_)
 refine g_region ?_
 refine g_step rfl (s_val (v_lss rfl rfl) rfl rfl ?_)
 refine g_nil ?_
 refine g_next hK4 ?_
 refine g_seq (fun K5 hK5 => ?_)
 refine g_cond rfl (fun hc11 => ?_) (fun hc11 => ?_)
 ·
  try simp only [NM] at hc11
  obtain ⟨s, hx⟩ := get_some (l := l) (k := k) (by omega)
  refine g_skip ?_
  refine g_next hK5 ?_
  refine g_seq (fun K6 hK6 => ?_)
  refine g_block ?_
  refine g_seq (fun K7 hK7 => ?_)
  refine g_region ?_
  refine g_step rfl (s_val (v_indexAddr ty89 ty24 rfl rfl (by first | rfl | assumption) (by first | rfl | exact (rfl : (0 : Int) = ((0 : Nat) : Int)) | exact (Int.toNat_of_nonneg (by omega)).symm) (by first | assumption | exact map_get (by assumption) | rfl) rfl) rfl rfl ?_)
  refine g_step rfl (s_val (by first | exact v_load_elt ty24 rfl rfl (by first | rfl | assumption) (by first | assumption | exact map_get (by assumption) | rfl) rfl rfl | exact v_load_box_all ty24 rfl rfl (by assumption) rfl rfl | exact v_load_part (cs := [_, _]) ty24 rfl rfl (by first | rfl | assumption) (by first | assumption | exact map_get (by assumption) | rfl) rfl rfl rfl | exact v_load_box_part (cs := [_, _]) ty24 rfl rfl (by assumption) rfl rfl rfl) rfl rfl ?_)
  refine g_step rfl (s_alloc (av := (.agg [(.int .i64 0), (.int .i64 0)])) ty24 rfl rfl rfl rfl ?_)
  refine g_step rfl (s_store_all ty24 rfl rfl rfl rfl rfl rfl ?_)
  refine g_nil ?_
  refine g_next hK7 ?_
  refine g_seq (fun K8 hK8 => ?_)
  refine g_seq (fun K9 hK9 => ?_)
  refine g_region ?_
  refine g_step rfl (s_val (by first | exact v_loadl_all ty24 rfl rfl rfl rfl rfl | exact v_loadl_part (cs := [_, _]) ty24 rfl rfl rfl rfl rfl rfl) rfl rfl ?_)
  refine g_step rfl (s_callp rfl rfl rfl (spValid_ok _ _) ?_)
  rintro _ rfl
  refine g_step rfl (s_val (v_not rfl) rfl rfl ?_)
  refine g_nil ?_
  refine g_next hK9 ?_
  refine g_cond rfl (fun hc16 => ?_) (fun hc16 => ?_)
  ·
   try simp only [NM] at hc16
   have hsn : spCommon l = none := by rw [drop_cons hx, spCom, if_neg (by simpa using hc16)] at hsc; exact hsc.symm
   refine g_seq (fun K10 hK10 => ?_)
   refine g_region ?_
   refine g_step rfl (s_val (v_build (vs := []) (zs := [(.int .i64 0), (.int .i64 0)]) (cells := [_, _]) ty24 pl24 rfl rfl rfl) rfl rfl ?_)
   refine g_step rfl (s_store_all ty24 rfl rfl rfl rfl rfl rfl ?_)
   refine g_step rfl (s_val (v_assign rfl) rfl rfl ?_)
   refine g_nil ?_
   refine g_next hK10 ?_
   refine g_ret ?_
   refine g_then_ret ?_
   refine g_block_ret ?_
   refine g_then_ret ?_
   refine g_then_ret ?_
   refine g_block_ret ?_
   refine g_then_ret ?_
   refine g_end2 (.inl rfl) Try.results56 (.agg ty24 rfl rfl rfl rfl rfl) (.tmp rfl) [] (ASub.refl _) (AHeap.sub_refl _) (fun p hp => by cases hp) ⟨rfl, ?_⟩
   first | (rw [hsn]; rfl; done) | (rw [hsn]; rfl; rfl)
  ·
   try simp only [NM] at hc16
   refine g_skip ?_
   refine g_next hK8 ?_
   refine g_draw (n := 14) (fun j => !([11, 13] : List Nat).contains j) rfl rfl ?_
   refine m_takel 0 rfl rfl (by kernel_rfl) (by kernel_rfl) (by kernel_rfl) (fun _ _ _ _ h => h) (vl_fieldAddr ty24 fo24_0 ty3 rfl) rfl rfl ?_
   refine m_tk 1 true rfl rfl (by kernel_rfl) (v_loadl ty3 rfl rfl rfl rfl) rfl rfl ?_
   refine m_takel 2 rfl rfl (by kernel_rfl) (by kernel_rfl) (by kernel_rfl) (fun _ _ _ _ h => h) (vl_fieldAddr ty24 fo24_0 ty3 rfl) rfl rfl ?_
   refine m_tk 3 true rfl rfl (by kernel_rfl) (v_loadl ty3 rfl rfl rfl rfl) rfl rfl ?_
   refine m_tk 4 false rfl rfl (by kernel_rfl) (v_max rfl rfl) rfl rfl ?_
   refine m_takel 5 rfl rfl (by kernel_rfl) (by kernel_rfl) (by kernel_rfl) (fun _ _ _ _ h => h) (vl_fieldAddr ty24 fo24_1 ty3 rfl) rfl rfl ?_
   refine m_tk 6 true rfl rfl (by kernel_rfl) (v_loadl ty3 rfl rfl rfl rfl) rfl rfl ?_
   refine m_takel 7 rfl rfl (by kernel_rfl) (by kernel_rfl) (by kernel_rfl) (fun _ _ _ _ h => h) (vl_fieldAddr ty24 fo24_1 ty3 rfl) rfl rfl ?_
   refine m_takel 10 rfl rfl (by kernel_rfl) (by kernel_rfl) (by kernel_rfl) (fun _ _ _ _ h => h) (vl_fieldAddr ty24 fo24_0 ty3 rfl) rfl rfl ?_
   refine m_all (is := [8, 11]) (by kernel_rfl) rfl (fun _ _ _ => trivial) (fun i hi => ?_)
   rcases (by simpa using hi : i = 8 ∨ i = 11) with rfl | rfl
   ·
    refine ⟨_, rfl, .inl ⟨rfl, ?_⟩⟩
    refine sm_val (v_loadl ty3 rfl rfl rfl rfl) rfl rfl ?_
    refine m_tk 9 false rfl rfl (by kernel_rfl) (v_min rfl rfl) rfl rfl ?_
    refine m_one 11 (by kernel_rfl) rfl rfl ?_
    refine sm_any rfl (s_store (new := .agg [_, _]) ty3 rfl rfl rfl rfl rfl rfl rfl ?_)
    refine m_takel 12 rfl rfl (by kernel_rfl) (by kernel_rfl) (by kernel_rfl) (fun _ _ _ _ h => h) (vl_fieldAddr ty24 fo24_1 ty3 rfl) rfl rfl ?_
    refine m_one 13 (by kernel_rfl) rfl rfl ?_
    refine sm_any rfl (s_store (new := .agg [_, _]) ty3 rfl rfl rfl rfl rfl rfl rfl ?_)
    refine m_done (by kernel_rfl) ?_
    refine g_block_normal ?_
    refine g_next hK6 ?_
    refine g_region ?_
    refine g_step rfl (s_val (v_add rfl rfl (by omega)) rfl rfl ?_)
    refine g_step rfl (s_val (v_move rfl) rfl rfl ?_)
    refine g_nil ?_
    first | refine g_keep [8, 9, 10] [2, 4] [2, 4] (keep_cons rfl (keep_cons rfl (keep_cons rfl keep_nil))) (lkeep_cons rfl (lkeep_cons rfl lkeep_nil)) (keep_cons rfl (keep_cons rfl keep_nil)) rfl ?_ | refine g_keep [8, 9, 10] [2, 4] [2, 4] rfl rfl rfl rfl ?_
    exact g_round _ (by omega) ⟨k + 1, ⟨max acc.lo s.lo, min acc.hi s.hi⟩, by omega, rfl, rfl, rfl, rfl, rfl, by rw [drop_cons hx, spCom, if_pos (by simpa using hc16)] at hsc; exact hsc⟩
   ·
    refine ⟨_, rfl, .inl ⟨rfl, ?_⟩⟩
    refine sm_any rfl (s_store (new := .agg [_, _]) ty3 rfl rfl rfl rfl rfl rfl rfl ?_)
    refine m_tk 8 true rfl rfl (by kernel_rfl) (v_loadl ty3 rfl rfl rfl rfl) rfl rfl ?_
    refine m_tk 9 false rfl rfl (by kernel_rfl) (v_min rfl rfl) rfl rfl ?_
    refine m_takel 12 rfl rfl (by kernel_rfl) (by kernel_rfl) (by kernel_rfl) (fun _ _ _ _ h => h) (vl_fieldAddr ty24 fo24_1 ty3 rfl) rfl rfl ?_
    refine m_one 13 (by kernel_rfl) rfl rfl ?_
    refine sm_any rfl (s_store (new := .agg [_, _]) ty3 rfl rfl rfl rfl rfl rfl rfl ?_)
    refine m_done (by kernel_rfl) ?_
    refine g_block_normal ?_
    refine g_next hK6 ?_
    refine g_region ?_
    refine g_step rfl (s_val (v_add rfl rfl (by omega)) rfl rfl ?_)
    refine g_step rfl (s_val (v_move rfl) rfl rfl ?_)
    refine g_nil ?_
    first | refine g_keep [8, 9, 10] [2, 4] [2, 4] (keep_cons rfl (keep_cons rfl (keep_cons rfl keep_nil))) (lkeep_cons rfl (lkeep_cons rfl lkeep_nil)) (keep_cons rfl (keep_cons rfl keep_nil)) rfl ?_ | refine g_keep [8, 9, 10] [2, 4] [2, 4] rfl rfl rfl rfl ?_
    exact g_round _ (by omega) ⟨k + 1, ⟨max acc.lo s.lo, min acc.hi s.hi⟩, by omega, rfl, rfl, rfl, rfl, rfl, by rw [drop_cons hx, spCom, if_pos (by simpa using hc16)] at hsc; exact hsc⟩
 ·
  try simp only [NM] at hc11
  obtain rfl : k = l.length := by omega
  rw [List.drop_length, spCom] at hsc
  refine g_exit ?_
  refine g_then_exit ?_
  refine g_then_exit ?_
  refine g_block_same ?_
  refine g_next hK2 ?_
  refine g_seq (fun K11 hK11 => ?_)
  refine g_seq (fun K12 hK12 => ?_)
  refine g_region ?_
  refine g_step rfl (s_val (by first | exact v_loadl_all ty24 rfl rfl rfl rfl rfl | exact v_loadl_part (cs := [_, _]) ty24 rfl rfl rfl rfl rfl rfl) rfl rfl ?_)
  refine g_step rfl (s_callp rfl rfl rfl (spValid_ok _ _) ?_)
  rintro _ rfl
  refine g_step rfl (s_val (v_not rfl) rfl rfl ?_)
  refine g_nil ?_
  refine g_next hK12 ?_
  refine g_cond rfl (fun hc33 => ?_) (fun hc33 => ?_)
  ·
   try simp only [NM] at hc33
   rw [if_neg (by simpa using hc33)] at hsc
   refine g_seq (fun K13 hK13 => ?_)
   refine g_region ?_
   refine g_step rfl (s_val (v_build (vs := []) (zs := [(.int .i64 0), (.int .i64 0)]) (cells := [_, _]) ty24 pl24 rfl rfl rfl) rfl rfl ?_)
   refine g_step rfl (s_store_all ty24 rfl rfl rfl rfl rfl rfl ?_)
   refine g_step rfl (s_val (v_assign rfl) rfl rfl ?_)
   refine g_nil ?_
   refine g_next hK13 ?_
   refine g_ret ?_
   refine g_then_ret ?_
   refine g_end2 (.inl rfl) Try.results56 (.agg ty24 rfl rfl rfl rfl rfl) (.tmp rfl) [] (ASub.refl _) (AHeap.sub_refl _) (fun p hp => by cases hp) ⟨rfl, ?_⟩
   first | (rw [← hsc]; rfl; done) | (rw [← hsc]; rfl; rfl)
  ·
   try simp only [NM] at hc33
   rw [if_pos (by simpa using hc33)] at hsc
   refine g_skip ?_
   refine g_next hK11 ?_
   refine g_seq (fun K14 hK14 => ?_)
   refine g_region ?_
   refine g_step rfl (s_val (by first | exact v_loadl_all ty24 rfl rfl rfl rfl rfl | exact v_loadl_part (cs := [_, _]) ty24 rfl rfl rfl rfl rfl rfl) rfl rfl ?_)
   refine g_step rfl (s_store_all ty24 rfl rfl rfl rfl rfl rfl ?_)
   refine g_step rfl (s_val (v_assign rfl) rfl rfl ?_)
   refine g_nil ?_
   refine g_next hK14 ?_
   refine g_ret ?_
   refine g_end2 (.inl rfl) Try.results56 (.agg ty24 rfl rfl rfl rfl rfl) (.tmp rfl) [] (ASub.refl _) (AHeap.sub_refl _) (fun p hp => by cases hp) ⟨rfl, ?_⟩
   first | (rw [← hsc]; rfl; done) | (rw [← hsc]; rfl; rfl)

theorem spBest_ok (a b : Sp) (G : AHeap) : PCalls Try.prog 18 [encSp a, encSp b] G (fun r => r = .int .i64 (spBest a b)) := by
 refine LCalls.intro 16 fi18 rfl Try.ntmps18 rfl (fun _ h => h.elim) (fun H hH w0 hw0 => ?_)
 refine g_seq (fun K0 hK0 => ?_)
 refine g_region ?_
 refine g_step rfl (s_box rfl rfl rfl rfl ?_)
 refine g_step rfl (s_box rfl rfl rfl rfl ?_)
 refine g_step rfl (s_val (v_assign rfl) rfl rfl ?_)
 refine g_nil ?_
 refine g_next hK0 ?_
 refine g_seq (fun K1 hK1 => ?_)
 refine g_region ?_
 refine g_step rfl (s_val (by first | exact v_loadl_all ty24 rfl rfl rfl rfl rfl | exact v_loadl_part (cs := [_, _]) ty24 rfl rfl rfl rfl rfl rfl) rfl rfl ?_)
 refine g_step rfl (s_val (by first | exact v_loadl_all ty24 rfl rfl rfl rfl rfl | exact v_loadl_part (cs := [_, _]) ty24 rfl rfl rfl rfl rfl rfl) rfl rfl ?_)
 refine g_step rfl (s_lit ty89 ty24 rfl rfl rfl rfl rfl rfl rfl ?_)
 refine g_step rfl (s_callp rfl rfl rfl (spCommon_ok [a, b] _ (by simp)) ?_)
 rintro _ rfl
 refine g_step rfl (s_val (v_move rfl) rfl rfl ?_)
 refine g_step rfl (s_val (v_extract rfl rfl) rfl rfl ?_)
 refine g_step rfl (s_val (v_extract rfl rfl) rfl rfl ?_)
 refine g_step rfl (s_alloc (av := (.agg [(.int .i64 0), (.int .i64 0)])) ty24 rfl rfl rfl rfl ?_)
 refine g_step rfl (s_store_all ty24 rfl rfl rfl rfl rfl rfl ?_)
 refine g_step rfl (s_val (v_assign rfl) rfl rfl ?_)
 refine g_nil ?_
 refine g_next hK1 ?_
 refine g_seq (fun K2 hK2 => ?_)
 refine g_region ?_
 refine g_step rfl (s_fieldAddr ty24 fo24_1 ty3 rfl rfl ?_)
 refine g_step rfl (s_val (v_loadl ty3 rfl rfl rfl rfl) rfl rfl ?_)
 refine g_step rfl (s_val (v_assign rfl) rfl rfl ?_)
 refine g_nil ?_
 refine g_next hK2 ?_
 refine g_ret ?_
 refine g_end1 (.inl rfl) Try.results18 (.tmp rfl) [] (ASub.refl _) (AHeap.sub_refl _) (fun p hp => by cases hp) ⟨rfl, ?_⟩
 rfl

end Go.Proofs.Ytgedefcjngofkaa

import Derived.Test.YtgedefcjngofkaaPlan
set_option maxHeartbeats 8000000
set_option linter.unusedSimpArgs false
set_option linter.unusedVariables false
set_option maxRecDepth 100000
namespace Go.Proofs.Ytgedefcjngofkaa
open Go Go.Proofs.Ytgedefcjngofkaa.AM
theorem plan1_ok (p q rn nn i : Nat) (s : Sp) (now out : List Mv) (ao : AV) (m : Mv) (G : AHeap) (hp : G p = some (.box (.own rn 3 0 nn))) (hr : G rn = some (.row 3 (now.map encMv))) (hnn : nn = (now.map encMv).length) (hq : G q = some (.box ao)) (ho : SV G 3 ao (out.map encMv)) (hne : ∀ ro k, ao = .own ro 3 0 k → ro ≠ rn) (hi : now[i]? = some m) (hlen : out.length ≤ 1000000) : LCalls Try.prog 61 [.int .i64 (i : Int), encSp s, .box p 0, .box q 0] G (fun b => b = rn ∨ b = q ∨ ∃ k, ao = .own b 3 0 k) (fun n r effs => r = .tup [] ∧ ∃ r', (n ≤ r' ∨ ∃ k, ao = .own r' 3 0 k) ∧ effs = [(q, .box (.own r' 3 0 ((out ++ [(⟨m.id, s⟩ : Mv)]).map encMv).length)), (r', .row 3 ((out ++ [(⟨m.id, s⟩ : Mv)]).map encMv)), (rn, .row 3 ((now.set i ⟨m.id, s⟩).map encMv))]) := by
 refine LCalls.intro 18 fi61 rfl Try.ntmps61 rfl (by rintro b (rfl | rfl | ⟨k, hk⟩); rw [hr]; simp; rw [hq]; simp; rcases ho with ⟨h1, _⟩ | ⟨r, h1, h2⟩; (rw [hk] at h1; cases h1); (rw [hk] at h1; cases h1; rw [h2]; simp)) (fun H hH w0 hw0 => ?_)
 have hp1 := hH _ _ hp
 have hr1 := hH _ _ hr
 have hq1 := hH _ _ hq
 have ho1 := ho.mono hH
 refine g_seq (fun K0 hK0 => ?_)
 refine g_region ?_
 refine g_step rfl (s_box rfl rfl rfl rfl ?_)
 refine g_nil ?_
 refine g_next hK0 ?_
 refine g_seq (fun K1 hK1 => ?_)
 refine g_region ?_
 refine g_step rfl (s_val (by first | exact v_load ty35 rfl rfl (by first | rfl | assumption) (by first | assumption | exact map_get (by assumption) | rfl) rfl | exact v_load_box ty35 rfl rfl hp1 (by rfl)) rfl rfl ?_)
 refine g_step rfl (s_val (v_move rfl) rfl rfl ?_)
 refine g_step rfl (s_val (by first | exact v_loadl_all ty24 rfl rfl rfl rfl rfl | exact v_loadl_part (cs := [_, _]) ty24 rfl rfl rfl rfl rfl rfl) rfl rfl ?_)
 refine g_step rfl (s_val (v_indexAddr ty35 ty42 rfl rfl (AV.view_own_all hr1 hnn) (by first | rfl | exact (rfl : (0 : Int) = ((0 : Nat) : Int)) | exact (Int.toNat_of_nonneg (by omega)).symm) (map_get hi) rfl) rfl rfl ?_)
 refine g_step rfl (s_val (by first | exact v_fieldAddr ty42 fo42_1 ty24 rfl | exact v_fieldAddr_box ty42 fo42_1 ty24 rfl) rfl rfl ?_)
 refine g_step rfl (s_store_row (k := i) (off := 1) (old := encMv m) (new := encMv (⟨m.id, s⟩ : Mv)) ty24 rfl rfl hr1 (by rw [Nat.zero_add]; exact map_get hi) rfl rfl rfl rfl (.inl (.inl rfl)) ?_)
 rw [Nat.zero_add i, ← List.map_set]
 refine g_nil ?_
 refine g_next hK1 ?_
 refine g_draw (n := 8) (fun j => !([6, 7] : List Nat).contains j) rfl rfl ?_
 have hqrn : q ≠ rn := fun e => by rw [e, hr1] at hq1; cases hq1
 have hprn : p ≠ rn := fun e => by rw [e, hr1] at hp1; cases hp1
 have hq2 : (H.set rn (.row 3 ((now.set i ⟨m.id, s⟩).map encMv))) q = some (.box ao) := by rw [AHeap.get_set_ne _ _ hqrn]; exact hq1
 have hp2 : (H.set rn (.row 3 ((now.set i ⟨m.id, s⟩).map encMv))) p = some (.box (.own rn 3 0 nn)) := by rw [AHeap.get_set_ne _ _ hprn]; exact hp1
 have hi2 : (now.set i ⟨m.id, s⟩)[i]? = some (⟨m.id, s⟩ : Mv) := by rw [List.getElem?_set_self (List.getElem?_eq_some_iff.1 hi).1]
 have hsv : (ao = .nil0 ∧ out.map encMv = []) ∨ ∃ r, ao = .own r 3 0 (out.map encMv).length ∧ (H.set rn (.row 3 ((now.set i ⟨m.id, s⟩).map encMv))) r = some (.row 3 (out.map encMv)) ∧ ((r = rn ∨ r = q ∨ ∃ k, ao = .own r 3 0 k) ∨ w0.heap.size ≤ r) := ho1.imp id fun ⟨r, h1, h2⟩ => ⟨r, h1, by rw [AHeap.get_set_ne _ _ (hne r _ h1)]; exact h2, .inl (.inr (.inr ⟨_, h1⟩))⟩
 refine m_tk 0 true rfl rfl (by kernel_rfl) (by first | exact v_load ty35 rfl rfl (by first | rfl | assumption) (by first | assumption | exact map_get (by assumption) | rfl) rfl | exact v_load_box ty35 rfl rfl hq2 (by rw [ho1.one.1]; rfl)) rfl rfl ?_
 refine m_tk 1 true rfl rfl (by kernel_rfl) (by first | exact v_load ty35 rfl rfl (by first | rfl | assumption) (by first | assumption | exact map_get (by assumption) | rfl) rfl | exact v_load_box ty35 rfl rfl hp2 (by rfl)) rfl rfl ?_
 refine m_tk 2 false rfl rfl (by kernel_rfl) (v_move rfl) rfl rfl ?_
 refine m_tk 3 false rfl rfl (by kernel_rfl) (v_indexAddr ty35 ty42 rfl rfl (AV.view_own_all (AHeap.get_set _ _ _) (by rw [hnn]; simp)) (by first | rfl | exact (rfl : (0 : Int) = ((0 : Nat) : Int)) | exact (Int.toNat_of_nonneg (by omega)).symm) (map_get hi2) rfl) rfl rfl ?_
 refine m_tk 4 true rfl rfl (by kernel_rfl) (by first | exact v_load_elt ty42 rfl rfl (AV.view_own_all (AHeap.get_set _ _ _) (by rw [hnn]; simp)) (map_get hi2) rfl rfl | exact v_load_box_all ty42 rfl rfl (by assumption) rfl rfl | exact v_load_part (cs := [_, _, _]) ty42 rfl rfl (AV.view_own_all (AHeap.get_set _ _ _) (by rw [hnn]; simp)) (map_get hi2) rfl rfl rfl | exact v_load_box_part (cs := [_, _, _]) ty42 rfl rfl (by assumption) rfl rfl rfl) rfl rfl ?_
 refine m_one 5 (by kernel_rfl) rfl rfl ?_
 refine sm_lit ty35 ty42 rfl rfl rfl rfl rfl rfl rfl ?_
 refine m_one 6 (by kernel_rfl) rfl rfl ?_
 refine sm_any rfl (s_appendV (l := (out.map encMv)) (m := ([(⟨m.id, s⟩ : Mv)].map encMv)) ty35 ty42 rfl rfl hsv rfl rfl (by refine Even.map _ ?_ _; intro _; rfl) (by intro x hx; obtain ⟨_, _, rfl⟩ := List.mem_map.1 hx; rfl) rfl (by simp) (by simp; omega) (by simp; omega) ?_)
 intro r17 hr17
 rw [← List.map_append]
 refine m_one 7 (by kernel_rfl) rfl rfl ?_
 have hq17 : q ≠ r17 := fun e => by subst e; rcases hr17 with ⟨h1, _⟩ | h1; (rw [hq2] at h1; cases h1); (rcases hsv with ⟨h2, _⟩ | ⟨r, h2, h3, _⟩; (rw [h1] at h2; cases h2); (rw [h1] at h2; cases h2; rw [hq2] at h3; cases h3))
 refine sm_any rfl (s_store_box (new := .own r17 3 0 ((out ++ [(⟨m.id, s⟩ : Mv)]).map encMv).length) ty35 rfl rfl ((AHeap.get_set_ne _ _ hq17).trans hq2) rfl rfl (by rw [ho1.one.1]; rfl) (by rw [ho1.one.1]; rfl) (.inl (.inr (.inl rfl))) ?_)
 refine m_done (by kernel_rfl) ?_
 refine g_end0 (.inr rfl) Try.results61  [(q, .box (.own r17 3 0 ((out ++ [(⟨m.id, s⟩ : Mv)]).map encMv).length)), (r17, .row 3 ((out ++ [(⟨m.id, s⟩ : Mv)]).map encMv)), (rn, .row 3 ((now.set i ⟨m.id, s⟩).map encMv))]  (AHeap.sub_refl _) (fun z hz => by simp at hz; rcases hz with rfl | rfl | rfl; (left; rw [hq]; simp); (rcases hr17 with ⟨_, h1⟩ | h1; (right; exact h1); (left; rcases ho with ⟨h2, _⟩ | ⟨r, h2, h3⟩; (rw [h1] at h2; cases h2); (rw [h1] at h2; cases h2; rw [h3]; simp))); (left; rw [hr]; simp)) ⟨rfl, r17, hr17.imp (fun h => h.2) (fun h => ⟨_, h⟩), rfl⟩

theorem plan_ok (l : List Rc) (t : Sp) (w : Int) (G : AHeap) (hl : l.length ≤ 100000) (hs : ∀ x ∈ l, Small x.bag) : PCalls Try.prog 21 [encRs l, encSp t, .int .i64 w] G (fun v => v = .tup [.imm ((if mayE l t w = 0 then planL l t w else []).map encMv), .int .i64 (mayE l t w)]) := by
 refine LCalls.intro 77 fi21 rfl Try.ntmps21 rfl (fun _ h => h.elim) (fun H hH w0 hw0 => ?_)
 refine g_seq (fun K0 hK0 => ?_)
 refine g_region ?_
 refine g_step rfl (s_box rfl rfl rfl rfl ?_)
 refine g_step rfl (s_val (v_assign rfl) rfl rfl ?_)
 refine g_step rfl (s_val (v_assign rfl) rfl rfl ?_)
 refine g_nil ?_
 refine g_next hK0 ?_
 refine g_seq (fun K1 hK1 => ?_)
 refine g_seq (fun K2 hK2 => ?_)
 refine g_region ?_
 refine g_step rfl (s_val (v_move rfl) rfl rfl ?_)
 refine g_step rfl (s_val (by first | exact v_loadl_all ty24 rfl rfl rfl rfl rfl | exact v_loadl_part (cs := [_, _]) ty24 rfl rfl rfl rfl rfl rfl) rfl rfl ?_)
 refine g_step rfl (s_val (v_move rfl) rfl rfl ?_)
 refine g_step rfl (s_callp rfl rfl rfl (pmay_ok l t w _ hl hs) ?_)
 rintro _ rfl
 refine g_step rfl (s_val (v_assign rfl) rfl rfl ?_)
 refine g_nil ?_
 refine g_next hK2 ?_
 refine g_seq (fun K3 hK3 => ?_)
 refine g_region ?_
 refine g_step rfl (s_val (v_move rfl) rfl rfl ?_)
 refine g_step rfl (s_val (v_neq rfl rfl) rfl rfl ?_)
 refine g_nil ?_
 refine g_next hK3 ?_
 refine g_cond rfl (fun hc22 => ?_) (fun hc22 => ?_)
 ·
  try simp only [NM] at hc22
  refine g_seq (fun K4 hK4 => ?_)
  refine g_region ?_
  refine g_step rfl (s_val (v_move rfl) rfl rfl ?_)
  refine g_step rfl (s_val (v_assign rfl) rfl rfl ?_)
  refine g_step rfl (s_val (v_assign rfl) rfl rfl ?_)
  refine g_nil ?_
  refine g_next hK4 ?_
  refine g_ret ?_
  refine g_then_ret ?_
  refine g_end2 (.inl rfl) Try.results21 (.tmp rfl) (.tmp rfl) [] (ASub.tup (m := [.imm [], _]) ⟨ASub.nil0, ASub.refl _, trivial⟩) (AHeap.sub_refl _) (fun p hp => by cases hp) ⟨rfl, ?_⟩
  first | (rw [if_neg hc22]; rfl; done) | (rw [if_neg hc22]; rfl; rfl)
 ·
  try simp only [NM] at hc22
  obtain ⟨z1, z2, z3, z4, z5, z6⟩ := may_zero hc22
  have hv2 : 1 ≤ t.lo ∧ t.lo ≤ t.hi ∧ t.hi ≤ 3 := by simpa [spValid] using z2
  have hml : (membs l).length ≤ l.length := by rw [membs, List.length_map]; exact List.length_filter_le _ _
  refine g_skip ?_
  refine g_next hK1 ?_
  refine g_seq (fun K5 hK5 => ?_)
  refine g_region ?_
  refine g_step rfl (s_val (v_move rfl) rfl rfl ?_)
  refine g_step rfl (s_call rfl rfl rfl (membersO_ok l _ (by omega)) (fun _ h => h.elim) ?_)
  rintro n1 an effs1 hn1 hdom1 hR1 hok1
  have hown := hR1.own (n0 := w0.heap.size) hn1 hdom1
  generalize setAll H effs1 = G1 at hown ⊢
  have hcl := hown.sv.one
  refine g_step rfl (s_alloc (av := .nil0) ty35 rfl rfl rfl rfl ?_)
  refine g_step rfl (s_store_all ty35 rfl rfl rfl (by rw [hcl.1]; rfl) hcl.2 rfl ?_)
  refine g_nil ?_
  refine g_next hK5 ?_
  refine g_seq (fun K6 hK6 => ?_)
  refine g_region ?_
  refine g_step rfl (s_alloc (av := .nil0) ty35 rfl rfl rfl rfl ?_)
  refine g_nil ?_
  refine g_next hK6 ?_
  refine g_seq (fun K7 hK7 => ?_)
  refine g_region ?_
  refine g_expose 9 rfl rfl (fun r9 hr9 hw9 => ?_)
  refine g_expose 10 rfl rfl (fun r10 hr10 hw10 => ?_)
  refine g_step rfl (s_val (v_makeFunc rfl) rfl rfl ?_)
  refine g_step rfl (s_val (v_assign rfl) rfl rfl ?_)
  refine g_nil ?_
  refine g_next hK7 ?_
  refine g_seq (fun K8 hK8 => ?_)
  refine g_seq (fun K9 hK9 => ?_)
  refine g_region ?_
  have hne : r9 ≠ r10 := fun e => by subst e; rw [AHeap.get_set] at hr10; cases hr10
  have hsv : SV G1 3 an ((membs l).map encMv) := hown.sv
  have hst0 : PlanSt w0.heap.size r9 r10 an H (AHeap.set (AHeap.set G1 r9 (.box an)) r10 (.box .nil0)) (membs l) ([]) := ⟨by rw [AHeap.get_set_ne _ _ hne]; exact AHeap.get_set _ _ _, hsv.mono (AHeap.sub_set (AHeap.sub_set (AHeap.sub_refl _) hr9) hr10), ⟨.nil0, AHeap.get_set _ _ _, .inl ⟨rfl, rfl⟩, fun _ _ e => by cases e⟩, AHeap.sub_trans hown.sub (AHeap.sub_set (AHeap.sub_set (AHeap.sub_refl _) hr9) hr10), hw9, hw10, fun rn j e => by rcases hown with ⟨h1, _⟩ | ⟨r, h1, h2, h3, _⟩; (rw [h1] at e; cases e); (rw [h3] at e; cases e; exact h2), hne⟩
  generalize (AHeap.set (AHeap.set G1 r9 _) r10 _) = G2 at hst0 ⊢
  refine g_step rfl (s_val (v_assign rfl) rfl rfl ?_)
  refine g_nil ?_
  refine g_next hK9 ?_
  refine g_block ?_
  first | refine g_keep [2, 9, 10, 11, 12] [4] [4] (keep_cons rfl (keep_cons rfl (keep_cons rfl (keep_cons rfl (keep_cons rfl keep_nil))))) (lkeep_cons rfl lkeep_nil) (keep_cons rfl keep_nil) rfl ?_ | refine g_keep [2, 9, 10, 11, 12] [4] [4] rfl rfl rfl rfl ?_
  refine g_loop (fun n env L B G => ∃ (k : Nat) , k ≤ (t.hi - 1).toNat ∧ n = (t.hi - 1).toNat - k ∧ env = [(2, .int .i64 w), (9, .box r9 0), (10, .box r10 0), (11, .fn (.func 61) [.box r9 0, .box r10 0]), (12, .int .i64 ((k : Int) + 1))] ∧ L = [(4, 4, 0)] ∧ B = [(4, encSp t)] ∧ PlanSt w0.heap.size r9 r10 an H G ((passes w k (membs l)).1) ((passes w k (membs l)).2) ∧ (passes w k (membs l)).1.length = (membs l).length ∧ (passes w k (membs l)).2.length ≤ k * (membs l).length) ((t.hi - 1).toNat) ⟨0, Nat.zero_le _, rfl, rfl, rfl, rfl, ⟨hst0, rfl, by show (0 : Nat) ≤ _; omega⟩⟩ (fun n env L B G hI => ?_)
  obtain ⟨k, hk, rfl, rfl, rfl, rfl, hst, hnl, hol⟩ := hI
  refine g_seq (fun K10 hK10 => ?_)
  refine g_seq (fun K11 hK11 => ?_)
  refine g_region ?_
  refine g_step rfl (s_val (v_move rfl) rfl rfl ?_)
  refine g_step rfl (s_fieldAddr ty24 fo24_1 ty3 rfl rfl ?_)
  refine g_step rfl (s_val (v_loadl ty3 rfl rfl rfl rfl) rfl rfl ?_)
  refine g_step rfl (s_val (v_lss rfl rfl) rfl rfl ?_)
  refine g_nil ?_
  refine g_next hK11 ?_
  refine g_cond rfl (fun hc30 => ?_) (fun hc30 => ?_)
  ·
   try simp only [NM] at hc30
   have hk2 : k ≤ 2 := by omega
   have hkm : k * (membs l).length ≤ 2 * (membs l).length := Nat.mul_le_mul_right _ hk2
   refine g_skip ?_
   refine g_next hK10 ?_
   refine g_seq (fun K12 hK12 => ?_)
   refine g_block ?_
   refine g_seq (fun K13 hK13 => ?_)
   refine g_region ?_
   refine g_step rfl (s_val (by first | exact v_load ty35 rfl rfl (by first | rfl | assumption) (by first | assumption | exact map_get (by assumption) | rfl) rfl | exact v_load_box ty35 rfl rfl hst.box (by rw [hst.now.one.1]; rfl)) rfl rfl ?_)
   refine g_step rfl (s_val (v_len ty35 rfl hst.now.view (by first | exact List.length_map .. | rfl)) rfl rfl ?_)
   refine g_step rfl (s_val (v_move rfl) rfl rfl ?_)
   refine g_nil ?_
   refine g_next hK13 ?_
   refine g_block ?_
   first | refine g_keep [2, 9, 10, 11, 12, 33, 34, 35] [4] [4] (keep_cons rfl (keep_cons rfl (keep_cons rfl (keep_cons rfl (keep_cons rfl (keep_cons rfl (keep_cons rfl (keep_cons rfl keep_nil)))))))) (lkeep_cons rfl lkeep_nil) (keep_cons rfl keep_nil) rfl ?_ | refine g_keep [2, 9, 10, 11, 12, 33, 34, 35] [4] [4] rfl rfl rfl rfl ?_
   refine g_loop (fun n env L B G => ∃ (i : Nat) , i ≤ (passes w k (membs l)).1.length ∧ n = (passes w k (membs l)).1.length - i ∧ env = [(2, .int .i64 w), (9, .box r9 0), (10, .box r10 0), (11, .fn (.func 61) [.box r9 0, .box r10 0]), (12, .int .i64 ((k : Int) + 1)), (33, an), (34, .int .i64 ((passes w k (membs l)).1.length : Int)), (35, .int .i64 (i : Int))] ∧ L = [(4, 4, 0)] ∧ B = [(4, encSp t)] ∧ PlanSt w0.heap.size r9 r10 an H G (putAll (atP ((k : Int) + 1)) (upMv w ((k : Int) + 1)) i (passes w k (membs l)).1) ((passes w k (membs l)).2 ++ (((passes w k (membs l)).1.take i).filter (atP ((k : Int) + 1))).map (upMv w ((k : Int) + 1)))) ((passes w k (membs l)).1.length) ⟨0, Nat.zero_le _, rfl, rfl, rfl, rfl, by rw [putAll_zero]; show PlanSt _ _ _ _ _ _ _ (_ ++ []); rw [List.append_nil]; exact hst⟩ (fun n env L B G hI => ?_)
   obtain ⟨i, hi, rfl, rfl, rfl, rfl, hst⟩ := hI
   refine g_seq (fun K14 hK14 => ?_)
   refine g_region ?_
   refine g_step rfl (s_val (v_lss rfl rfl) rfl rfl ?_)
   refine g_nil ?_
   refine g_next hK14 ?_
   refine g_seq (fun K15 hK15 => ?_)
   refine g_cond rfl (fun hc36 => ?_) (fun hc36 => ?_)
   ·
    try simp only [NM] at hc36
    obtain ⟨m, hm⟩ := get_some (l := (passes w k (membs l)).1) (k := i) (by omega)
    have hfl := List.length_filter_le (atP ((k : Int) + 1)) ((passes w k (membs l)).1.take i)
    rw [List.length_take] at hfl
    refine g_skip ?_
    refine g_next hK15 ?_
    refine g_seq (fun K16 hK16 => ?_)
    refine g_block ?_
    refine g_seq (fun K17 hK17 => ?_)
    refine g_region ?_
    refine g_step rfl (s_val (v_move rfl) rfl rfl ?_)
    refine g_step rfl (s_val (v_indexAddr ty35 ty42 rfl rfl hst.now.view (by first | rfl | exact (rfl : (0 : Int) = ((0 : Nat) : Int)) | exact (Int.toNat_of_nonneg (by omega)).symm) (map_get (putAll_get hm)) rfl) rfl rfl ?_)
    refine g_step rfl (s_val (by first | exact v_load_elt ty42 rfl rfl hst.now.view (map_get (putAll_get hm)) rfl rfl | exact v_load_box_all ty42 rfl rfl (by assumption) rfl rfl | exact v_load_part (cs := [_, _, _]) ty42 rfl rfl hst.now.view (map_get (putAll_get hm)) rfl rfl rfl | exact v_load_box_part (cs := [_, _, _]) ty42 rfl rfl (by assumption) rfl rfl rfl) rfl rfl ?_)
    refine g_step rfl (s_alloc (av := (.agg [(.int .i64 0), (.int .i64 0), (.int .i64 0)])) ty42 rfl rfl rfl rfl ?_)
    refine g_step rfl (s_val (v_assign rfl) rfl rfl ?_)
    refine g_step rfl (s_store_all ty42 rfl rfl rfl rfl rfl rfl ?_)
    refine g_nil ?_
    refine g_next hK17 ?_
    refine g_seq (fun K18 hK18 => ?_)
    refine g_region ?_
    refine g_step rfl (s_fieldAddr ty42 fo42_1 ty24 rfl rfl ?_)
    refine g_step rfl (s_fieldAddr ty24 fo24_1 ty3 rfl rfl ?_)
    refine g_step rfl (s_val (v_loadl ty3 rfl rfl rfl rfl) rfl rfl ?_)
    refine g_step rfl (s_val (v_move rfl) rfl rfl ?_)
    refine g_step rfl (s_val (v_eql rfl rfl) rfl rfl ?_)
    refine g_nil ?_
    refine g_next hK18 ?_
    refine g_cond rfl (fun hc44 => ?_) (fun hc44 => ?_)
    ·
     try simp only [NM] at hc44
     have hap : atP ((k : Int) + 1) m = true := by simp [atP]; omega
     obtain ⟨rn, han, hrn⟩ := hst.now.resolve_left (by rintro ⟨_, h0⟩; have h1 := putAll_get (p := (atP ((k : Int) + 1))) (f := (upMv w ((k : Int) + 1))) hm; rw [List.map_eq_nil_iff] at h0; rw [h0] at h1; simp at h1)
     obtain ⟨ao, hq, ho, hof⟩ := hst.out
     have hbx := hst.box
     rw [han] at hbx
     obtain ⟨nn, hnn⟩ : ∃ nn, nn = (List.map encMv (putAll (atP ((k : Int) + 1)) (upMv w ((k : Int) + 1)) i (passes w k (membs l)).1)).length := ⟨_, rfl⟩
     rw [← hnn] at han hbx
     refine g_region ?_
     refine g_step rfl (s_val (v_move rfl) rfl rfl ?_)
     refine g_step rfl (s_val (v_move rfl) rfl rfl ?_)
     refine g_step rfl (s_fieldAddr ty42 fo42_1 ty24 rfl rfl ?_)
     refine g_step rfl (s_fieldAddr ty24 fo24_0 ty3 rfl rfl ?_)
     refine g_step rfl (s_val (v_loadl ty3 rfl rfl rfl rfl) rfl rfl ?_)
     refine g_step rfl (s_val (v_move rfl) rfl rfl ?_)
     refine g_step rfl (s_val (v_add rfl rfl (by omega)) rfl rfl ?_)
     refine g_step rfl (s_val (v_move rfl) rfl rfl ?_)
     refine g_step rfl (s_val (v_sub_ rfl rfl (by omega)) rfl rfl ?_)
     refine g_step rfl (s_val (v_max rfl rfl) rfl rfl ?_)
     refine g_step rfl (s_val (v_move rfl) rfl rfl ?_)
     refine g_step rfl (s_val (v_add rfl rfl (by omega)) rfl rfl ?_)
     refine g_step rfl (s_val (v_sub (b := (encSp (upSp w ((k : Int) + 1) m.sp))) (v_build (vs := [(0, _), (1, _)]) (zs := [(.int .i64 0), (.int .i64 0)]) (cells := [_, _]) ty24 pl24 rfl rfl rfl) (ASub.of_wk rfl)) rfl rfl ?_)
     refine g_step rfl (s_call rfl rfl rfl (plan1_ok r9 r10 rn _ i (upSp w ((k : Int) + 1) m.sp) (putAll (atP ((k : Int) + 1)) (upMv w ((k : Int) + 1)) i (passes w k (membs l)).1) ((passes w k (membs l)).2 ++ (((passes w k (membs l)).1.take i).filter (atP ((k : Int) + 1))).map (upMv w ((k : Int) + 1))) ao m _ hbx hrn hnn hq ho (fun ro k e => (hof ro k e).2 _ _ han) (putAll_get hm) (by rw [List.length_append, List.length_map]; omega)) (fun b hb => .inr (by rcases hb with rfl | rfl | ⟨k, hk⟩; exact hst.fn _ _ han; exact hst.fq; exact (hof _ _ hk).1)) ?_)
     rintro n1 r1 effs1 hn1 hdom1 ⟨rfl, r', hr', rfl⟩ hok1
     have hst2 := hst.step (i := i) (⟨m.id, (upSp w ((k : Int) + 1) m.sp)⟩ : Mv) hw0 han hrn hnn hn1 hdom1 hq ho hof hr'
     generalize setAll G _ = G2 at hst2 ⊢
     refine g_nil ?_
     refine g_block_normal ?_
     refine g_next hK16 ?_
     first | refine g_keep [2, 9, 10, 11, 12, 33, 34, 35] [4] [4] (keep_cons rfl (keep_cons rfl (keep_cons rfl (keep_cons rfl (keep_cons rfl (keep_cons rfl (keep_cons rfl (keep_cons rfl keep_nil)))))))) (lkeep_cons rfl lkeep_nil) (keep_cons rfl keep_nil) rfl ?_ | refine g_keep [2, 9, 10, 11, 12, 33, 34, 35] [4] [4] rfl rfl rfl rfl ?_
     refine g_region ?_
     refine g_step rfl (s_val (v_add rfl rfl (by omega)) rfl rfl ?_)
     refine g_step rfl (s_val (v_move rfl) rfl rfl ?_)
     refine g_nil ?_
     first | refine g_keep [2, 9, 10, 11, 12, 33, 34, 35] [4] [4] (keep_cons rfl (keep_cons rfl (keep_cons rfl (keep_cons rfl (keep_cons rfl (keep_cons rfl (keep_cons rfl (keep_cons rfl keep_nil)))))))) (lkeep_cons rfl lkeep_nil) (keep_cons rfl keep_nil) rfl ?_ | refine g_keep [2, 9, 10, 11, 12, 33, 34, 35] [4] [4] rfl rfl rfl rfl ?_
     first | exact g_round _ (by omega) ⟨i + 1, by omega, rfl, rfl, rfl, rfl, by rw [← putAll_hit hm hap, filter_snoc hm, if_pos hap, List.map_append, ← List.append_assoc]; exact hst2⟩ | exact g_round _ (by omega) ⟨i + 1, by omega, rfl, rfl, rfl, rfl, by rw [← putAll_miss hm (by simp [atP]; omega), filter_snoc hm, if_neg (by simp [atP]; omega), List.append_nil]; exact hst⟩
    ·
     try simp only [NM] at hc44
     refine g_skip ?_
     refine g_block_normal ?_
     refine g_next hK16 ?_
     refine g_region ?_
     refine g_step rfl (s_val (v_add rfl rfl (by omega)) rfl rfl ?_)
     refine g_step rfl (s_val (v_move rfl) rfl rfl ?_)
     refine g_nil ?_
     first | refine g_keep [2, 9, 10, 11, 12, 33, 34, 35] [4] [4] (keep_cons rfl (keep_cons rfl (keep_cons rfl (keep_cons rfl (keep_cons rfl (keep_cons rfl (keep_cons rfl (keep_cons rfl keep_nil)))))))) (lkeep_cons rfl lkeep_nil) (keep_cons rfl keep_nil) rfl ?_ | refine g_keep [2, 9, 10, 11, 12, 33, 34, 35] [4] [4] rfl rfl rfl rfl ?_
     first | exact g_round _ (by omega) ⟨i + 1, by omega, rfl, rfl, rfl, rfl, by rw [← putAll_hit hm hap, filter_snoc hm, if_pos hap, List.map_append, ← List.append_assoc]; exact hst2⟩ | exact g_round _ (by omega) ⟨i + 1, by omega, rfl, rfl, rfl, rfl, by rw [← putAll_miss hm (by simp [atP]; omega), filter_snoc hm, if_neg (by simp [atP]; omega), List.append_nil]; exact hst⟩
   ·
    try simp only [NM] at hc36
    obtain rfl : i = (passes w k (membs l)).1.length := by omega
    rw [putAll_all, List.take_length] at hst
    have hstn : PlanSt w0.heap.size r9 r10 an H G ((passes w (k + 1) (membs l)).1) ((passes w (k + 1) (membs l)).2) := hst
    refine g_exit ?_
    refine g_then_exit ?_
    refine g_then_exit ?_
    refine g_block_same ?_
    refine g_block_normal ?_
    refine g_next hK12 ?_
    refine g_region ?_
    refine g_step rfl (s_val (v_move rfl) rfl rfl ?_)
    refine g_step rfl (s_val (v_add rfl rfl (by omega)) rfl rfl ?_)
    refine g_step rfl (s_val (v_assign rfl) rfl rfl ?_)
    refine g_nil ?_
    first | refine g_keep [2, 9, 10, 11, 12] [4] [4] (keep_cons rfl (keep_cons rfl (keep_cons rfl (keep_cons rfl (keep_cons rfl keep_nil))))) (lkeep_cons rfl lkeep_nil) (keep_cons rfl keep_nil) rfl ?_ | refine g_keep [2, 9, 10, 11, 12] [4] [4] rfl rfl rfl rfl ?_
    exact g_round _ (by omega) ⟨k + 1, by omega, rfl, rfl, rfl, rfl, ⟨hstn, by show (passN w ((k : Int) + 1) (passes w k (membs l)).1).length = _; rw [passN, List.length_map]; exact hnl, by show ((passes w k (membs l)).2 ++ passO w ((k : Int) + 1) (passes w k (membs l)).1).length ≤ _; rw [List.length_append, passO, List.length_map]; have h9 := List.length_filter_le (atP ((k : Int) + 1)) (passes w k (membs l)).1; rw [Nat.add_mul]; omega⟩⟩
  ·
   try simp only [NM] at hc30
   obtain rfl : k = (t.hi - 1).toNat := by omega
   have hkm : (t.hi - 1).toNat * (membs l).length ≤ 2 * (membs l).length := Nat.mul_le_mul_right _ (by omega)
   refine g_exit ?_
   refine g_then_exit ?_
   refine g_then_exit ?_
   refine g_block_same ?_
   refine g_next hK8 ?_
   refine g_seq (fun K19 hK19 => ?_)
   refine g_seq (fun K20 hK20 => ?_)
   refine g_region ?_
   refine g_step rfl (s_val (by first | exact v_load ty35 rfl rfl (by first | rfl | assumption) (by first | assumption | exact map_get (by assumption) | rfl) rfl | exact v_load_box ty35 rfl rfl hst.box (by rw [hst.now.one.1]; rfl)) rfl rfl ?_)
   refine g_step rfl (s_val (v_len ty35 rfl hst.now.view (by first | exact List.length_map .. | rfl)) rfl rfl ?_)
   refine g_step rfl (s_val (v_move rfl) rfl rfl ?_)
   refine g_nil ?_
   refine g_next hK20 ?_
   refine g_block ?_
   first | refine g_keep [10, 11, 60, 61, 62] [4] [4] (keep_cons rfl (keep_cons rfl (keep_cons rfl (keep_cons rfl (keep_cons rfl keep_nil))))) (lkeep_cons rfl lkeep_nil) (keep_cons rfl keep_nil) rfl ?_ | refine g_keep [10, 11, 60, 61, 62] [4] [4] rfl rfl rfl rfl ?_
   refine g_loop (fun n env L B G => ∃ (i : Nat) , i ≤ (passes w (t.hi - 1).toNat (membs l)).1.length ∧ n = (passes w (t.hi - 1).toNat (membs l)).1.length - i ∧ env = [(10, .box r10 0), (11, .fn (.func 61) [.box r9 0, .box r10 0]), (60, an), (61, .int .i64 ((passes w (t.hi - 1).toNat (membs l)).1.length : Int)), (62, .int .i64 (i : Int))] ∧ L = [(4, 4, 0)] ∧ B = [(4, encSp t)] ∧ PlanSt w0.heap.size r9 r10 an H G (putAll (endP t) (toT t) i (passes w (t.hi - 1).toNat (membs l)).1) ((passes w (t.hi - 1).toNat (membs l)).2 ++ (((passes w (t.hi - 1).toNat (membs l)).1.take i).filter (endP t)).map (toT t))) ((passes w (t.hi - 1).toNat (membs l)).1.length) ⟨0, Nat.zero_le _, rfl, rfl, rfl, rfl, by rw [putAll_zero]; show PlanSt _ _ _ _ _ _ _ (_ ++ []); rw [List.append_nil]; exact hst⟩ (fun n env L B G hI => ?_)
   obtain ⟨i, hi, rfl, rfl, rfl, rfl, hst⟩ := hI
   refine g_seq (fun K21 hK21 => ?_)
   refine g_region ?_
   refine g_step rfl (s_val (v_lss rfl rfl) rfl rfl ?_)
   refine g_nil ?_
   refine g_next hK21 ?_
   refine g_seq (fun K22 hK22 => ?_)
   refine g_cond rfl (fun hc63 => ?_) (fun hc63 => ?_)
   ·
    try simp only [NM] at hc63
    obtain ⟨m, hm⟩ := get_some (l := (passes w (t.hi - 1).toNat (membs l)).1) (k := i) (by omega)
    have hfl := List.length_filter_le (endP t) ((passes w (t.hi - 1).toNat (membs l)).1.take i)
    rw [List.length_take] at hfl
    refine g_skip ?_
    refine g_next hK22 ?_
    refine g_seq (fun K23 hK23 => ?_)
    refine g_block ?_
    refine g_seq (fun K24 hK24 => ?_)
    refine g_region ?_
    refine g_step rfl (s_val (v_move rfl) rfl rfl ?_)
    refine g_step rfl (s_val (v_indexAddr ty35 ty42 rfl rfl hst.now.view (by first | rfl | exact (rfl : (0 : Int) = ((0 : Nat) : Int)) | exact (Int.toNat_of_nonneg (by omega)).symm) (map_get (putAll_get hm)) rfl) rfl rfl ?_)
    refine g_step rfl (s_val (by first | exact v_load_elt ty42 rfl rfl hst.now.view (map_get (putAll_get hm)) rfl rfl | exact v_load_box_all ty42 rfl rfl (by assumption) rfl rfl | exact v_load_part (cs := [_, _, _]) ty42 rfl rfl hst.now.view (map_get (putAll_get hm)) rfl rfl rfl | exact v_load_box_part (cs := [_, _, _]) ty42 rfl rfl (by assumption) rfl rfl rfl) rfl rfl ?_)
    refine g_step rfl (s_alloc (av := (.agg [(.int .i64 0), (.int .i64 0), (.int .i64 0)])) ty42 rfl rfl rfl rfl ?_)
    refine g_step rfl (s_val (v_assign rfl) rfl rfl ?_)
    refine g_step rfl (s_store_all ty42 rfl rfl rfl rfl rfl rfl ?_)
    refine g_nil ?_
    refine g_next hK24 ?_
    refine g_seq (fun K25 hK25 => ?_)
    refine g_region ?_
    refine g_step rfl (s_fieldAddr ty42 fo42_1 ty24 rfl rfl ?_)
    refine g_step rfl (s_val (v_loadl_part (cs := [_, _]) ty24 rfl rfl rfl rfl rfl rfl) rfl rfl ?_)
    refine g_step rfl (s_val (by first | exact v_loadl_all ty24 rfl rfl rfl rfl rfl | exact v_loadl_part (cs := [_, _]) ty24 rfl rfl rfl rfl rfl rfl) rfl rfl ?_)
    refine g_step rfl (s_val (v_st_neq (k := .i64) (l := [m.sp.lo, m.sp.hi]) (m := [t.lo, t.hi]) ty24 st24 rfl rfl rfl rfl st24l rfl) rfl rfl ?_)
    refine g_nil ?_
    refine g_next hK25 ?_
    refine g_cond rfl (fun hc70 => ?_) (fun hc70 => ?_)
    ·
     try simp only [NM] at hc70
     have hap : endP t m = true := by rw [endP, Bool.not_eq_true', decide_eq_false_iff_not, ← sp_list]; simpa using hc70
     obtain ⟨rn, han, hrn⟩ := hst.now.resolve_left (by rintro ⟨_, h0⟩; have h1 := putAll_get (p := (endP t)) (f := (toT t)) hm; rw [List.map_eq_nil_iff] at h0; rw [h0] at h1; simp at h1)
     obtain ⟨ao, hq, ho, hof⟩ := hst.out
     have hbx := hst.box
     rw [han] at hbx
     obtain ⟨nn, hnn⟩ : ∃ nn, nn = (List.map encMv (putAll (endP t) (toT t) i (passes w (t.hi - 1).toNat (membs l)).1)).length := ⟨_, rfl⟩
     rw [← hnn] at han hbx
     refine g_region ?_
     refine g_step rfl (s_val (v_move rfl) rfl rfl ?_)
     refine g_step rfl (s_val (v_move rfl) rfl rfl ?_)
     refine g_step rfl (s_val (by first | exact v_loadl_all ty24 rfl rfl rfl rfl rfl | exact v_loadl_part (cs := [_, _]) ty24 rfl rfl rfl rfl rfl rfl) rfl rfl ?_)
     refine g_step rfl (s_call rfl rfl rfl (plan1_ok r9 r10 rn _ i t (putAll (endP t) (toT t) i (passes w (t.hi - 1).toNat (membs l)).1) ((passes w (t.hi - 1).toNat (membs l)).2 ++ (((passes w (t.hi - 1).toNat (membs l)).1.take i).filter (endP t)).map (toT t)) ao m _ hbx hrn hnn hq ho (fun ro k e => (hof ro k e).2 _ _ han) (putAll_get hm) (by rw [List.length_append, List.length_map]; omega)) (fun b hb => .inr (by rcases hb with rfl | rfl | ⟨k, hk⟩; exact hst.fn _ _ han; exact hst.fq; exact (hof _ _ hk).1)) ?_)
     rintro n1 r1 effs1 hn1 hdom1 ⟨rfl, r', hr', rfl⟩ hok1
     have hst2 := hst.step (i := i) (⟨m.id, t⟩ : Mv) hw0 han hrn hnn hn1 hdom1 hq ho hof hr'
     generalize setAll G _ = G2 at hst2 ⊢
     refine g_nil ?_
     refine g_block_normal ?_
     refine g_next hK23 ?_
     refine g_region ?_
     refine g_step rfl (s_val (v_add rfl rfl (by omega)) rfl rfl ?_)
     refine g_step rfl (s_val (v_move rfl) rfl rfl ?_)
     refine g_nil ?_
     first | refine g_keep [10, 11, 60, 61, 62] [4] [4] (keep_cons rfl (keep_cons rfl (keep_cons rfl (keep_cons rfl (keep_cons rfl keep_nil))))) (lkeep_cons rfl lkeep_nil) (keep_cons rfl keep_nil) rfl ?_ | refine g_keep [10, 11, 60, 61, 62] [4] [4] rfl rfl rfl rfl ?_
     first | exact g_round _ (by omega) ⟨i + 1, by omega, rfl, rfl, rfl, rfl, by rw [← putAll_hit hm hap, filter_snoc hm, if_pos hap, List.map_append, ← List.append_assoc]; exact hst2⟩ | exact g_round _ (by omega) ⟨i + 1, by omega, rfl, rfl, rfl, rfl, by rw [← putAll_miss hm hap, filter_snoc hm, if_neg (by rw [hap]; simp), List.append_nil]; exact hst⟩
    ·
     try simp only [NM] at hc70
     have hap : endP t m = false := by rw [endP, Bool.not_eq_false', decide_eq_true_eq, ← sp_list]; simpa using hc70
     refine g_skip ?_
     refine g_block_normal ?_
     refine g_next hK23 ?_
     refine g_region ?_
     refine g_step rfl (s_val (v_add rfl rfl (by omega)) rfl rfl ?_)
     refine g_step rfl (s_val (v_move rfl) rfl rfl ?_)
     refine g_nil ?_
     first | refine g_keep [10, 11, 60, 61, 62] [4] [4] (keep_cons rfl (keep_cons rfl (keep_cons rfl (keep_cons rfl (keep_cons rfl keep_nil))))) (lkeep_cons rfl lkeep_nil) (keep_cons rfl keep_nil) rfl ?_ | refine g_keep [10, 11, 60, 61, 62] [4] [4] rfl rfl rfl rfl ?_
     first | exact g_round _ (by omega) ⟨i + 1, by omega, rfl, rfl, rfl, rfl, by rw [← putAll_hit hm hap, filter_snoc hm, if_pos hap, List.map_append, ← List.append_assoc]; exact hst2⟩ | exact g_round _ (by omega) ⟨i + 1, by omega, rfl, rfl, rfl, rfl, by rw [← putAll_miss hm hap, filter_snoc hm, if_neg (by rw [hap]; simp), List.append_nil]; exact hst⟩
   ·
    try simp only [NM] at hc63
    obtain rfl : i = (passes w (t.hi - 1).toNat (membs l)).1.length := by omega
    rw [putAll_all, List.take_length] at hst
    obtain ⟨ao, hq, ho, hof⟩ := hst.out
    refine g_exit ?_
    refine g_then_exit ?_
    refine g_then_exit ?_
    refine g_block_same ?_
    refine g_next hK19 ?_
    refine g_seq (fun K26 hK26 => ?_)
    refine g_region ?_
    refine g_step rfl (s_val (by first | exact v_load ty35 rfl rfl (by first | rfl | assumption) (by first | assumption | exact map_get (by assumption) | rfl) rfl | exact v_load_box ty35 rfl rfl hq (by rw [ho.one.1]; rfl)) rfl rfl ?_)
    refine g_step rfl (s_val (v_assign rfl) rfl rfl ?_)
    refine g_step rfl (s_val (v_assign rfl) rfl rfl ?_)
    refine g_nil ?_
    refine g_freezeV 6 rfl ho hst.sub (fun r k e => hw0 r (hof r k e).1) ?_
    refine g_next hK26 ?_
    refine g_ret ?_
    refine g_end2 (.inl rfl) Try.results21 (.tmp rfl) (.tmp rfl) [] (ASub.refl _) (AHeap.sub_refl _) (fun p hp => by cases hp) ⟨rfl, ?_⟩
    first | (rw [if_pos hc22, hc22]; rfl; done) | (rw [if_pos hc22, hc22]; rfl; rfl)

end Go.Proofs.Ytgedefcjngofkaa
